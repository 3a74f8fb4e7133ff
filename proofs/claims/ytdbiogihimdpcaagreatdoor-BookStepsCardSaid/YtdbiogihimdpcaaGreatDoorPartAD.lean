/- The functions of the layer, walked. -/
import Derived.Test.YtdbiogihimdpcaaGreatDoorPartAC
set_option linter.unusedSimpArgs false
set_option linter.unusedVariables false
/- Layer 6: loans that are given back. -/
namespace Go.Proofs.YtdbiogihimdpcaaGreatDoor
open Go.Ev Go
set_option maxRecDepth 100000
set_option maxHeartbeats 16000000
def lackOf(cs:List BCon)(i:Int):Int:=((cs[i.toNat]?).map BCon.lack).getD 0
def spaceOf(cs:List BCon)(i:Int):Int:=((cs[i.toNat]?).map BCon.space).getD 0
def paysW(cs:List BCon)(t:BTrade)(G:List Int):Int:=IntKind.i64.wrap (IntKind.i64.wrap (t.amount-gI G t.to)*lackOf cs t.to)
def loanL(cs:List BCon)(t:BTrade)(G L:List Int):List Int:=
 if 0<IntKind.i64.wrap (t.amount-gI G t.to)then
  sI (sI L t.to (IntKind.i64.wrap (gI L t.to+paysW cs t G))) t.frm (IntKind.i64.wrap (gI (sI L t.to (IntKind.i64.wrap (gI L t.to+paysW cs t G))) t.frm-paysW cs t G))else L
def loanN(cs:List BCon)(t:BTrade)(G:List Int):Int:=
 min2 (min2 t.amount (gI G t.to)) (IntKind.i64.wrap (spaceOf cs t.frm-gI G t.frm))
def loanG(cs:List BCon)(t:BTrade)(G:List Int):List Int:=
 sI (sI G t.to (IntKind.i64.wrap (gI G t.to-loanN cs t G))) t.frm (IntKind.i64.wrap (gI (sI G t.to (IntKind.i64.wrap (gI G t.to-loanN cs t G))) t.frm+loanN cs t G))
/-- Gas, bills, and the loans that are left, behind all loans of a list. -/
def loansF(cs:List BCon)(hr:Int):List BTrade→List Int × List Int × List BTrade→List Int × List Int × List BTrade
 | [],a=>a
 |t::rest,(G,L,p)=>if t.back=hr then loansF cs hr rest (loanG cs t G,loanL cs t G L,p)else loansF cs hr rest (G,L,p++[t])
/-- A trade between contracts that are there. -/
def BTrade.ok(n:Nat)(t:BTrade):Prop:=inL n t.frm∧inL n t.to
theorem loanG_length(cs:List BCon)(t:BTrade)(G:List Int):(loanG cs t G).length=G.length:=by simp[loanG,sI_length]
theorem loanL_length(cs:List BCon)(t:BTrade)(G L:List Int):(loanL cs t G L).length=L.length:=by unfold loanL;split<;>simp[sI_length]
def leftV(p:List BTrade):AV:=if p=[]then .nils else .slr 5 4 0 p.length
def leftH(p:List BTrade):Heap:=if p=[]then []else [.live 5 true false (p.map BTrade.cells)]
theorem h_loans{s:BStore}{d:BDay}{fl w w1 w2 w3:Bool}{hr own fuel:Int}{wv av fv rv:AV}{G L:List Int}{O:List BTrade}(hG:G.length=s.cons.length)(hL:L.length=s.cons.length)(hOl:O.length≤1000)(ho:∀t∈O,t.ok s.cons.length)
 (hwv:wv=.nils) (hav:av=.nils) (hfv:fv=.nils) (hrv:rv=.nils):
 ClQ om' 104 [.ptr 0 0 0] [.live 19 fl w [(rc s d hr (.slr 1 1 0 G.length) own fuel (.slr 1 2 0 L.length) (.slr 5 3 0 O.length) wv av fv rv)],.live 1 true w1 (G.map iv),.live 1 true w2 (L.map iv),.live 5 true w3 (O.map BTrade.cells)]
  fun o h'=>o=.ret (.tup [])∧∃w1' w2',∀G' L' p',(G',L',p')=loansF s.cons hr O (G,L,[])→
   (w1'=false→G'=G)∧(w2'=false→L'=L)∧h'=[.live 19 false true [(rc s d hr (.slr 1 1 0 G.length) own fuel (.slr 1 2 0 L.length) (leftV p') wv av fv rv)],.live 1 true w1' (G'.map iv),.live 1 true w2' (L'.map iv),.live 5 true w3 (O.map BTrade.cells)]++leftH p':=by
 have hl':O.length≤maxLen:=by unfold maxLen;omega
 refine stOf rfl Tryz.func104 rfl rfl ?_
 simp only[Tryz.f104]
 (have hb:=trivial;with_reducible repeat' (first|simp only[hb,Vb.down,seval,TY104.down]|refine fsp ?_ ?_<;>intro hb|refine fd ?_|fail))
 refine fw_ot (lst 135 O (fun i (zz:List Int × List Int × List BTrade) t h=>t 0=.ptr 0 0 0∧t 11=.slr 5 3 0 O.length∧t 12=.int .i64 O.length∧t 13=.int .i64 i∧(∃wG wL g,h=.live 19 fl w [(rc s d hr (.slr 1 1 0 G.length) own fuel (.slr 1 2 0 L.length) (.slr 5 3 0 O.length) wv av fv rv)]::.live 1 true wG (zz.1.map iv)::.live 1 true wL (zz.2.1.map iv)::.live 5 true w3 (O.map BTrade.cells)::g∧quietH g=true∧(wG=false→zz.1=G)∧(wL=false→zz.2.1=L)∧zz.1.length=G.length∧zz.2.1.length=L.length∧zz.2.2.length≤i∧((zz.2.2=[]∧t 2=.nils)∨(zz.2.2≠[]∧∃b,t 2=.slr 5 (b+4) 0 zz.2.2.length∧g[b]?=some (.live 5 true false (zz.2.2.map BTrade.cells)))))) (fun rest zz=>loansF s.cons hr rest (zz.1,zz.2.1,zz.2.2)) (fun r e t h=>e=.exit 0∧t 0=.ptr 0 0 0∧(∃wG wL g,h=.live 19 fl w [(rc s d hr (.slr 1 1 0 G.length) own fuel (.slr 1 2 0 L.length) (.slr 5 3 0 O.length) wv av fv rv)]::.live 1 true wG (r.1.map iv)::.live 1 true wL (r.2.1.map iv)::.live 5 true w3 (O.map BTrade.cells)::g∧quietH g=true∧(wG=false→r.1=G)∧(wL=false→r.2.1=L)∧((r.2.2=[]∧t 2=.nils)∨(r.2.2≠[]∧∃b,t 2=.slr 5 (b+4) 0 r.2.2.length∧g[b]?=some (.live 5 true false (r.2.2.map BTrade.cells)))))) ?_ ?_ (G,L,[]) _ _ ?_) (fun e t h hk=>?_)
 ·rintro⟨G',L',p⟩ t h Q' kQ ⟨h0,h11,h12,h13,⟨wG,wL,g,rfl,hqg,hwG,hwL,hG',hL',hpl,hp⟩⟩
  try dsimp only at *
  (have hb:=trivial;with_reducible repeat' (first|simp only[hb,Vb.down,seval,TY104.down,h0,h11,h12,h13,Int.lt_irrefl,decide_false]|refine fsp ?_ ?_<;>intro hb|refine fd ?_|fail))
  exact kQ _ _ _ ⟨rfl,by simp[up,h0],wG,wL,g,rfl,hqg,by simpa [loansF]using hwG,by simpa [loansF]using hwL,by simpa [up,loansF]using hp⟩
 ·rintro x rest i ⟨G',L',p⟩ t h J Q' kJ kQ hx hi ⟨h0,h11,h12,h13,⟨wG,wL,g,rfl,hqg,hwG,hwL,hG',hL',hpl,hp⟩⟩
  have hd:decide ((i:Int)<(O.length:Int))=true:=decide_eq_true (by omega)
  have hw:=wrap_next hi hl'
  try dsimp only at *
  obtain⟨⟨f0,f1⟩,k0,k1⟩:=ho x (List.mem_of_getElem? hx)
  have hok:=ho x (List.mem_of_getElem? hx)
  have e1:(0≤x.to)=True:=eq_true k0
  have e2:(x.to<(G.length:Int))=True:=eq_true (by omega)
  have e3:(x.to<(L.length:Int))=True:=eq_true (by omega)
  have e4:(0≤x.frm)=True:=eq_true f0
  have e5:(x.frm<(G.length:Int))=True:=eq_true (by omega)
  have e6:(x.frm<(L.length:Int))=True:=eq_true (by omega)
  have hii:((i:Int)<(O.length:Int))=True:=eq_true (by omega)
  obtain⟨ct,hct⟩:∃c,s.cons[x.to.toNat]?=some c:=⟨_,List.getElem?_eq_getElem (by omega)⟩
  obtain⟨cf,hcf⟩:∃c,s.cons[x.frm.toNat]?=some c:=⟨_,List.getElem?_eq_getElem (by omega)⟩
  have a1:G'[x.to.toNat]?=some (gI G' x.to):=gI_at (by omega)
  have a2:L'[x.to.toNat]?=some (gI L' x.to):=gI_at (by omega)
  have a3:G'[x.frm.toNat]?=some (gI G' x.frm):=gI_at (by omega)
  have a4:L'[x.frm.toNat]?=some (gI L' x.frm):=gI_at (by omega)
  have a5:∀v,(sI G' x.to v)[x.frm.toNat]?=some (gI (sI G' x.to v) x.frm):=fun v=>gI_at (by rw[sI_length];omega)
  have a6:∀v,(sI L' x.to v)[x.frm.toNat]?=some (gI (sI L' x.to v) x.frm):=fun v=>gI_at (by rw[sI_length];omega)
  have hroom:∀(L2:List Int) (tl:Heap),om'.call (.sh 130) [.ptr 0 0 0,.int .i64 x.frm] (.live 19 fl false [(rc s d hr (.slr 1 1 0 G.length) own fuel (.slr 1 2 0 L.length) (.slr 5 3 0 O.length) wv av fv rv)]::.live 1 true false (G'.map iv)::.live 1 true false (L2.map iv)::.live 5 true false (O.map BTrade.cells)::tl)=
   some (.ret (.int .i64 (IntKind.i64.wrap (cf.space-gI G' x.frm))),.live 19 fl false [(rc s d hr (.slr 1 1 0 G.length) own fuel (.slr 1 2 0 L.length) (.slr 5 3 0 O.length) wv av fv rv)]::.live 1 true false (G'.map iv)::.live 1 true false (L2.map iv)::.live 5 true false (O.map BTrade.cells)::tl):=fun L2 tl=>
   h_room (b:=0) (bg:=1) (n:=G.length) hG' rfl rfl ⟨f0,by omega⟩ hcf
  have hse:=fun i l l'=>se_app hqg i l l'
  cases hbk:(x.back==hr)with
  |false=>
   have hbn:¬x.back=hr:=by simpa using hbk
   rcases hp with⟨rfl,h2⟩|⟨hpn,b,h2,hgb⟩
   ·(have hb:=trivial;with_reducible repeat' (first|simp only[hb,Vb.down,seval,TY104.down,h0,h11,h12,h13,h2,hd,hx,hw,hii,hbk,BTrade.cells]|refine fsp ?_ ?_<;>intro hb|refine fd ?_|fail))
    (refine rnd_go (kJ _ _ (G',L',[x]) ⟨?_,?_,?_,?_,⟨wG,wL,_,rfl,by rw[qh_app,hqg];rfl,hwG,hwL,hG',hL',by simp<;>omega,.inr ⟨by simp,g.length+2,by simp[up],by rw[hp_getk];simp[BTrade.cells]⟩⟩⟩ ?_);(simp[up,h0]);(simp[up,h11]);(simp[up,h12]);(simp[up]);(simp[loansF,hbn]))
   ·have hbl:b<g.length:=(List.getElem?_eq_some_iff.1 hgb).1
    have hA:=get_app hgb
    have hS:=set_app hbl
    have hi39:(p.length+1≤549755813888)=True:=eq_true (by have:=hpl;omega)
    (have hb:=trivial;with_reducible repeat' (first|simp only[hb,Vb.down,seval,TY104.down,h0,h11,h12,h13,h2,hd,hx,hw,hii,hbk,BTrade.cells,hA,hS,gset0,gsetk,List.length_set,List.length_map,hi39]|refine fsp ?_ ?_<;>intro hb|refine fd ?_|fail))
    (refine rnd_go (kJ _ _ (G',L',p++[x]) ⟨?_,?_,?_,?_,⟨wG,wL,_,rfl,by rw[qh_app,quietH_set hqg b];rfl,hwG,hwL,hG',hL',by simp<;>omega,.inr ⟨by simp,g.length+2,by simp[up],by rw[gsetk];simp[BTrade.cells]⟩⟩⟩ ?_);(simp[up,h0]);(simp[up,h11]);(simp[up,h12]);(simp[up]);(simp[loansF,hbn]))
  |true=>
   have hbn:x.back=hr:=by simpa using hbk
   have hpg:∀{t':Tm},t' 2=t 2→((p=[]∧t' 2=.nils)∨(p≠[]∧∃b,t' 2=.slr 5 (b+4) 0 p.length∧(g++[.live 5 true true [x.cells]])[b]?=some (.live 5 true false (p.map BTrade.cells)))):=fun {t'} e=>by
    rw[e]
    rcases hp with h|⟨h,b,h',h''⟩
    ·exact .inl h
    ·exact .inr ⟨h,b,h',get_app h'' _⟩
   by_cases hlk:0<IntKind.i64.wrap (x.amount-gI G' x.to)
   ·have hlk':decide (0<IntKind.i64.wrap (x.amount-gI G' x.to))=true:=decide_eq_true hlk
    (have hb:=trivial;with_reducible repeat' (first|simp only[hb,Vb.down,seval,TY104.down,h0,h11,h12,h13,hd,hx,hw,hii,hbk,hlk',BTrade.cells,BCon.cells,e1,e2,e3,e4,e5,e6,a1,a2,a3,a4,a5,a6,hct,hcf,hroom,hse,iv,sI_map,seP_some]|refine fsp ?_ ?_<;>intro hb|refine fd ?_|fail))
    (refine rnd_go (kJ _ _ (loanG s.cons x G',loanL s.cons x G' L',p) ⟨?_,?_,?_,?_,⟨true,true,g++[.live 5 true true [x.cells]],by simp[loanG,loanN,loanL,min2,spaceOf,lackOf,paysW,hcf,hct,hlk,BTrade.cells],by rw[qh_app,hqg];rfl,(fun h=>by cases h),(fun h=>by cases h),by rw[loanG_length];exact hG',by rw[loanL_length];exact hL',Nat.le_succ_of_le hpl,hpg (by simp[up])⟩⟩ ?_);(simp[up,h0]);(simp[up,h11]);(simp[up,h12]);(simp[up]);(simp[loansF,hbn]))
   ·have hlk':decide (0<IntKind.i64.wrap (x.amount-gI G' x.to))=false:=decide_eq_false hlk
    (have hb:=trivial;with_reducible repeat' (first|simp only[hb,Vb.down,seval,TY104.down,h0,h11,h12,h13,hd,hx,hw,hii,hbk,hlk',BTrade.cells,BCon.cells,e1,e2,e3,e4,e5,e6,a1,a2,a3,a4,a5,a6,hct,hcf,hroom,hse,iv,sI_map]|refine fsp ?_ ?_<;>intro hb|refine fd ?_|fail))
    (refine rnd_go (kJ _ _ (loanG s.cons x G',loanL s.cons x G' L',p) ⟨?_,?_,?_,?_,⟨true,wL,g++[.live 5 true true [x.cells]],by simp[loanG,loanN,loanL,min2,spaceOf,lackOf,paysW,hcf,hct,hlk,BTrade.cells],by rw[qh_app,hqg];rfl,(fun h=>by cases h),(by simpa [loanL,hlk]using hwL),by rw[loanG_length];exact hG',by rw[loanL_length];exact hL',Nat.le_succ_of_le hpl,hpg (by simp[up])⟩⟩ ?_);(simp[up,h0]);(simp[up,h11]);(simp[up,h12]);(simp[up]);(simp[loansF,hbn]))
 ·exact⟨by simp[up,ent],by simp[up,ent],by simp[up,ent],by simp[up],⟨_,_,[],rfl,rfl,fun _=>rfl,fun _=>rfl,rfl,rfl,Nat.le_refl _,.inl ⟨rfl,by simp[up]⟩⟩⟩
 ·obtain⟨rfl,h0,wG,wL,g,rfl,hqg,hwG,hwL,hp⟩:=hk
  generalize hr0:loansF s.cons hr O (G,L,[])=r at *
  obtain⟨G',L',p⟩:=r
  dsimp only at *
  have hV:wv=.nils:=hwv
  subst hwv hav hfv hrv
  rcases hp with⟨hp,h2⟩|⟨hp,b,h2,hgb⟩
  ·(have hb:=trivial;with_reducible repeat' (first|simp only[hb,Vb.down,seval,TY104.down,h0,h2]|refine fsp ?_ ?_<;>intro hb|refine fd ?_|fail))
   exact⟨wG,wL,fun _ _ _ e=>by cases e;exact⟨hwG,hwL,by simp[leftV,leftH,hp]⟩⟩
  ·(have hb:=trivial;with_reducible repeat' (first|simp only[hb,Vb.down,seval,TY104.down,h0,h2,hgb]|refine fsp ?_ ?_<;>intro hb|refine fd ?_|fail))
   exact⟨wG,wL,fun _ _ _ e=>by cases e;exact⟨hwG,hwL,by simp[leftV,leftH,hp]⟩⟩
theorem h_loansN{s:BStore}{d:BDay}{fl w w1 w2:Bool}{hr own fuel:Int}{wv av fv rv:AV}{G L:List Int}(hwv:wv=.nils)(hav:av=.nils)(hfv:fv=.nils)(hrv:rv=.nils):
 ClQ om' 104 [.ptr 0 0 0] [.live 19 fl w [(rc s d hr (.slr 1 1 0 G.length) own fuel (.slr 1 2 0 L.length) .nils wv av fv rv)],.live 1 true w1 (G.map iv),.live 1 true w2 (L.map iv)]
  fun o h'=>o=.ret (.tup [])∧h'=[.live 19 false true [(rc s d hr (.slr 1 1 0 G.length) own fuel (.slr 1 2 0 L.length) .nils wv av fv rv)],.live 1 true w1 (G.map iv),.live 1 true w2 (L.map iv)]:=by
 subst hwv hav hfv hrv
 refine stOf rfl Tryz.func104 rfl rfl ?_
 simp only[Tryz.f104]
 (have hb:=trivial;with_reducible repeat' (first|simp only[hb,Vb.down,seval,TY104.down]|refine fsp ?_ ?_<;>intro hb|refine fd ?_|fail))
 refine fw_ot (lst 135 ([]:List BTrade) (fun i (zz:Unit) t h=>t 0=.ptr 0 0 0∧t 2=.nils∧t 11=.nils∧t 12=.int .i64 0∧t 13=.int .i64 i∧h=[.live 19 fl w [(rc s d hr (.slr 1 1 0 G.length) own fuel (.slr 1 2 0 L.length) .nils .nils .nils .nils .nils)],.live 1 true w1 (G.map iv),.live 1 true w2 (L.map iv)]) (fun rest zz=>()) (fun r e t h=>e=.exit 0∧t 0=.ptr 0 0 0∧t 2=.nils∧h=[.live 19 fl w [(rc s d hr (.slr 1 1 0 G.length) own fuel (.slr 1 2 0 L.length) .nils .nils .nils .nils .nils)],.live 1 true w1 (G.map iv),.live 1 true w2 (L.map iv)]) ?_ ?_ () _ _ ?_) (fun e t h hk=>?_)
 ·rintro _ t h Q' kQ ⟨h0,h2,h11,h12,h13,rfl⟩
  (have hb:=trivial;with_reducible repeat' (first|simp only[hb,Vb.down,seval,TY104.down,h0,h2,h11,h12,h13,Int.lt_irrefl,decide_false,List.length_nil,Int.natCast_zero]|refine fsp ?_ ?_<;>intro hb|refine fd ?_|fail))
  exact kQ _ _ _ ⟨rfl,by simp[up,h0],by simp[up,h2],rfl⟩
 ·rintro x rest i _ t h J Q' kJ kQ hx hi ⟨h0,h2,h11,h12,h13,rfl⟩
  have hd:decide ((i:Int)<(([]:List BTrade).length:Int))=true:=decide_eq_true (by omega)
  have hw:=wrap_next hi (by simp[maxLen])
  cases hx
 ·exact⟨by simp[up,ent],by simp[up,ent],by simp[up,ent],by simp[up,ent],by simp[up],rfl⟩
 ·obtain⟨rfl,h0,h2,rfl⟩:=hk
  (have hb:=trivial;with_reducible repeat' (first|simp only[hb,Vb.down,seval,TY104.down,h0,h2]|refine fsp ?_ ?_<;>intro hb|refine fd ?_|fail))
def tradeG(t:BTrade)(G:List Int):List Int:=
 sI (sI G t.frm (IntKind.i64.wrap (gI G t.frm-t.amount))) t.to (IntKind.i64.wrap (gI (sI G t.frm (IntKind.i64.wrap (gI G t.frm-t.amount))) t.to+t.amount))
def tradeNo(cs:List BCon)(t:BTrade)(G:List Int)(n:Nat):Bool:=
 decide (gI G t.frm<t.amount)||decide (IntKind.i64.wrap (spaceOf cs t.to-gI G t.to)<t.amount)||(!(t.back== -1)&&decide ((50:Int)≤(n:Int)))
/-- Gas, loans, and what is refused, behind all trades of a list. -/
def tradesF(cs:List BCon)(hr:Int):List BTrade→Nat→List Int × List BTrade × List Int→List Int × List BTrade × List Int
 | [],_,a=>a
 |t::rest,i,(G,O,R)=>
  if(t.hour==hr)=true then
   if tradeNo cs t G O.length=true then tradesF cs hr rest (i+1) (G,O,R++[(i:Int)])
   else tradesF cs hr rest (i+1) (tradeG t G,if(t.back== -1)=true then O else O++[t],R)
  else tradesF cs hr rest (i+1) (G,O,R)
theorem tradeG_length(t:BTrade)(G:List Int):(tradeG t G).length=G.length:=by simp[tradeG,sI_length]
/-- The block of loans that were owed at first, behind trades. -/
def P3(O0:List BTrade)(ov:AV)(O':List BTrade)(g:Heap):Prop:=g[0]?=some .dead∨∃w,g[0]?=some (.live 5 true w (O'.map BTrade.cells))∧ov=.slr 5 3 0 O'.length∧O'=O0
theorem P3.app{O0:List BTrade}{ov:AV}{O':List BTrade}{g:Heap}(h:P3 O0 ov O' g)(l:Heap):P3 O0 ov O' (g++l):=by
 rcases h with h|⟨w,h,e⟩
 ·exact .inl (get_app h l)
 ·exact .inr ⟨w,get_app h l,e⟩
theorem P3.kl{O0:List BTrade}{ov rv:AV}{O':List BTrade}{g:Heap}{rows:List (List AV)}(h:P3 O0 ov O' g)(hr:OwnS 3 1 true rows rv g):P3 O0 ov O' (kl 3 rv g):=by
 rcases hr with⟨_,rfl⟩|⟨b,w,rfl,hb⟩
 ·exact h
 ·have hne:b≠0:=fun e=>by
   subst e
   rcases h with h|⟨w',h,_⟩<;>rw[h]at hb<;>simp at hb
  simp only[Ev.kl,Nat.add_sub_cancel]
  unfold P3
  rw[List.getElem?_set_ne hne]
  exact h
theorem P3.dead{O0 O' O'':List BTrade}{ov:AV}{b n:Nat}{g:Heap}(h:P3 O0 (.slr 5 (b+3) 0 n) O' g)(hb:b<g.length):P3 O0 ov O'' (g.set b .dead):=by
 refine .inl ?_
 by_cases e:b=0
 ·subst e;simp[hb]
 ·rw[List.getElem?_set_ne e]
  rcases h with h|⟨w,_,h,_⟩
  ·exact h
  ·simp only[AV.slr.injEq]at h;omega
theorem h_tradesN{s:BStore}{d:BDay}{w w1 w2 w3:Bool}{hr own fuel:Int}{G L:List Int}{O:List BTrade}(hG:G.length=s.cons.length)(hO:O=[])(hd50:d.trades.length≤1000)(ho:∀t∈d.trades,t.ok s.cons.length):
 ClQ om' 105 [.ptr 0 0 0] [.live 19 false w [(rc s d hr (.slr 1 1 0 G.length) own fuel (.slr 1 2 0 L.length) .nils .nils .nils .nils .nils)],.live 1 true w1 (G.map iv),.live 1 true w2 (L.map iv)]
  fun o h'=>o=.ret (.tup [])∧∃(wr wG wo wR:Bool) (ov rv:AV) (T:Heap),∀G' O' R,tradesF s.cons hr d.trades 0 (G,O,[])=(G',O',R)→(wG=false→G'=G)∧(wr=false→ov=.nils∧rv=.nils)∧h'=[.live 19 false wr [(rc s d hr (.slr 1 1 0 G.length) own fuel (.slr 1 2 0 L.length) ov .nils .nils .nils rv)],.live 1 true wG (G'.map iv),.live 1 true w2 (L.map iv)]++T∧((O'=[]∧R=[]∧ov=.nils∧rv=.nils∧T=[])∨(O'≠[]∧R=[]∧ov=.slr 5 3 0 O'.length∧rv=.nils∧T=[.live 5 true wo (O'.map BTrade.cells)])∨(O'=[]∧R≠[]∧ov=.nils∧rv=.slr 1 3 0 R.length∧T=[.live 1 true wR (R.map iv)])∨(O'≠[]∧R≠[]∧ov=.slr 5 3 0 O'.length∧rv=.slr 1 4 0 R.length∧T=[.live 5 true wo (O'.map BTrade.cells),.live 1 true wR (R.map iv)])):=by
 have hl':d.trades.length≤maxLen:=by unfold maxLen;omega
 have hO1:O.length≤1000:=by first|exact hO|(rw[hO];simp)
 refine stOf rfl Tryz.func105 rfl rfl ?_
 simp only[Tryz.f105]
 (have hb:=trivial;with_reducible repeat' (first|simp only[hb,Vb.down,seval,TY105.down,List.length_map]|refine fsp ?_ ?_<;>intro hb|refine fd ?_|fail))
 refine fw_ot (lst 112 d.trades (fun i (zz:List Int × List BTrade × List Int × Nat) t h=>t 0=.ptr 0 0 0∧t 9=slv 5 true d.nt (d.trades.map BTrade.cells)∧t 10=.int .i64 d.trades.length∧t 11=.int .i64 i∧(∃wr wG g ov rv,h=.live 19 false wr [(rc s d hr (.slr 1 1 0 G.length) own fuel (.slr 1 2 0 L.length) ov .nils .nils .nils rv)]::.live 1 true wG (zz.1.map iv)::.live 1 true w2 (L.map iv)::g∧quietH g=true∧(wG=false→zz.1=G)∧(wr=false→ov=.nils∧rv=.nils)∧zz.1.length=G.length∧zz.2.1.length≤O.length+i∧zz.2.2.1.length≤i∧i=zz.2.2.2∧OwnS 3 5 true (zz.2.1.map BTrade.cells) ov g∧OwnS 3 1 true (zz.2.2.1.map iv) rv g∧Sep ov rv∧(zz.2.1=[]→ov=.nils)∧(zz.2.2.1=[]→rv=.nils))) (fun rest zz=>tradesF s.cons hr rest zz.2.2.2 (zz.1,zz.2.1,zz.2.2.1)) (fun r e t h=>e=.exit 0∧∃wr wG g ov rv,h=.live 19 false wr [(rc s d hr (.slr 1 1 0 G.length) own fuel (.slr 1 2 0 L.length) ov .nils .nils .nils rv)]::.live 1 true wG (r.1.map iv)::.live 1 true w2 (L.map iv)::g∧quietH g=true∧(wG=false→r.1=G)∧(wr=false→ov=.nils∧rv=.nils)∧OwnS 3 5 true (r.2.1.map BTrade.cells) ov g∧OwnS 3 1 true (r.2.2.map iv) rv g∧Sep ov rv∧(r.2.1=[]→ov=.nils)∧(r.2.2=[]→rv=.nils)) ?_ ?_ (G,O,[],0) _ _ ?_) (fun e t h hk=>?_)
 ·rintro⟨G',O',R,k⟩ t h Q' kQ ⟨h0,h9,h10,h11,⟨wr,wG,g,ov,rv,rfl,hqg,hwG,hwr,hG',hOl,hRl,rfl,hown,hrow,hsp,⟨hx1,hx2⟩⟩⟩
  try dsimp only at *
  (have hb:=trivial;with_reducible repeat' (first|simp only[hb,Vb.down,seval,TY105.down,h0,h9,h10,h11,Int.lt_irrefl,decide_false]|refine fsp ?_ ?_<;>intro hb|refine fd ?_|fail))
  exact kQ _ _ _ ⟨rfl,wr,wG,g,ov,rv,rfl,hqg,hwG,hwr,hown,hrow,hsp,⟨hx1,hx2⟩⟩
 ·rintro x rest i ⟨G',O',R,k⟩ t h J Q' kJ kQ hx hi ⟨h0,h9,h10,h11,⟨wr,wG,g,ov,rv,rfl,hqg,hwG,hwr,hG',hOl,hRl,rfl,hown,hrow,hsp,⟨hx1,hx2⟩⟩⟩
  have hd:decide ((i:Int)<(d.trades.length:Int))=true:=decide_eq_true (by omega)
  have hw:=wrap_next hi hl'
  try dsimp only at *
  obtain⟨⟨f0,f1⟩,k0,k1⟩:=ho x (List.mem_of_getElem? hx)
  have e1:(0≤x.to)=True:=eq_true k0
  have e2:(x.to<(G.length:Int))=True:=eq_true (by omega)
  have e4:(0≤x.frm)=True:=eq_true f0
  have e5:(x.frm<(G.length:Int))=True:=eq_true (by omega)
  have hii:((i:Int)<(d.trades.length:Int))=True:=eq_true (by omega)
  obtain⟨ct,hct⟩:∃c,s.cons[x.to.toNat]?=some c:=⟨_,List.getElem?_eq_getElem (by omega)⟩
  have a1:G'[x.to.toNat]?=some (gI G' x.to):=gI_at (by omega)
  have a3:G'[x.frm.toNat]?=some (gI G' x.frm):=gI_at (by omega)
  have a5:∀v,(sI G' x.frm v)[x.to.toNat]?=some (gI (sI G' x.frm v) x.to):=fun v=>gI_at (by rw[sI_length];omega)
  have hroom:∀(tl:Heap),om'.call (.sh 130) [.ptr 0 0 0,.int .i64 x.to] (.live 19 false false [(rc s d hr (.slr 1 1 0 G.length) own fuel (.slr 1 2 0 L.length) ov .nils .nils .nils rv)]::.live 1 true false (G'.map iv)::tl)=
   some (.ret (.int .i64 (IntKind.i64.wrap (ct.space-gI G' x.to))),.live 19 false false [(rc s d hr (.slr 1 1 0 G.length) own fuel (.slr 1 2 0 L.length) ov .nils .nils .nils rv)]::.live 1 true false (G'.map iv)::tl):=fun tl=>
   h_room (b:=0) (bg:=1) (n:=G.length) hG' rfl rfl ⟨k0,by omega⟩ hct
  have hse:=fun i l l'=>se_app hqg i l l'
  have hln:=hown.ln Tryz.underlying46
  have hc1:=OwnS.cell hown
  have hc2:=OwnS.cell hrow
  have hc3:=OwnS.acells hown
  have hc4:=OwnS.acells hrow
  cases hbk:(x.hour==hr)with
  |false=>
   (have hb:=trivial;with_reducible repeat' (first|simp only[hb,Vb.down,seval,TY105.down,h0,h9,h10,h11,hd,hx,hw,hii,hbk,BTrade.cells,List.length_map,Bool.not_false]|refine fsp ?_ ?_<;>intro hb|refine fd ?_|fail))
   (refine rnd_go (kJ _ _ (G',O',R,i+1) ⟨?_,?_,?_,?_,⟨wr,wG,_,ov,rv,rfl,by rw[qh_app,hqg];rfl,hwG,hwr,hG',by dsimp only;omega,by dsimp only;omega,rfl,hown.app _,hrow.app _,hsp,⟨hx1,hx2⟩⟩⟩ ?_);(simp[up,h0]);(simp[up,h9]);(simp[up,h10]);(simp[up]);(simp[tradesF,hbk]))
  |true=>
   cases hno:tradeNo s.cons x G' O'.length with
   |true=>
    have hap1:=fun(q:Heap) (r:List AV)=>apK_own hrow (pre:=[.live 19 false wr [(rc s d hr (.slr 1 1 0 G.length) own fuel (.slr 1 2 0 L.length) ov .nils .nils .nils rv)],.live 1 true wG (G'.map iv),.live 1 true w2 (L.map iv)]) rfl q r [] (by simp;omega)
    have hhp1:=fun(q:Heap) (r:List (List AV)) (ba:Nat)=>happ_apE hrow (pre:=[.live 19 false wr [(rc s d hr (.slr 1 1 0 G.length) own fuel (.slr 1 2 0 L.length) ov .nils .nils .nils rv)],.live 1 true wG (G'.map iv),.live 1 true w2 (L.map iv)]) rfl q 1 true r ba
    simp only[List.cons_append,List.append_assoc,List.nil_append,List.length_map,List.length_cons,List.length_append,List.length_nil,kl_length,Nat.reduceAdd]at hap1 hhp1
    have hno':=hno
    simp only[tradeNo,spaceOf,hct,Option.map_some,Option.getD_some]at hno'
    cases d1:decide (gI G' x.frm<x.amount)with
    |true=>
     (have hb:=trivial;with_reducible repeat' (first|simp only[hb,Vb.down,seval,TY105.down,d1,h0,h9,h10,h11,hd,hx,hw,hii,hbk,BTrade.cells,BCon.cells,e1,e2,e4,e5,a1,a3,a5,hct,hroom,hse,iv,sI_map,List.length_map,Bool.not_false,Bool.not_true,hln,hc1,hc2,hap1,hhp1,kl_get,kl_length,Nat.add_zero]|refine fsp ?_ ?_<;>intro hb|refine fd ?_|fail))
     (refine rnd_go (kJ _ _ (G',O',R++[(i:Int)],i+1) ⟨?_,?_,?_,?_,⟨true,wG,_,ov,_,rfl,by rw[qh_app,quietH_kl hqg];rfl,hwG,(fun h=>by cases h),hG',by dsimp only;omega,by simp;omega,rfl,(hown.kl hrow hsp.symm).app _,OwnS.blk (b:=g.length+2) (w:=false) (by simp[kl_get,iv]) (by omega) (by simp),(hown.sep (by omega)),⟨hx1,fun h=>absurd h (by simp)⟩⟩⟩ ?_);(simp[up,h0]);(simp[up,h9]);(simp[up,h10]);(simp[up]);(simp[tradesF,hbk,hno]))
    |false=>
     cases d2:decide (IntKind.i64.wrap (ct.space-gI G' x.to)<x.amount)with
     |true=>
      (have hb:=trivial;with_reducible repeat' (first|simp only[hb,Vb.down,seval,TY105.down,d1,d2,h0,h9,h10,h11,hd,hx,hw,hii,hbk,BTrade.cells,BCon.cells,e1,e2,e4,e5,a1,a3,a5,hct,hroom,hse,iv,sI_map,List.length_map,Bool.not_false,Bool.not_true,hln,hc1,hc2,hap1,hhp1,kl_get,kl_length,Nat.add_zero]|refine fsp ?_ ?_<;>intro hb|refine fd ?_|fail))
      (refine rnd_go (kJ _ _ (G',O',R++[(i:Int)],i+1) ⟨?_,?_,?_,?_,⟨true,wG,_,ov,_,rfl,by rw[qh_app,quietH_kl hqg];rfl,hwG,(fun h=>by cases h),hG',by dsimp only;omega,by simp;omega,rfl,(hown.kl hrow hsp.symm).app _,OwnS.blk (b:=g.length+2) (w:=false) (by simp[kl_get,iv]) (by omega) (by simp),(hown.sep (by omega)),⟨hx1,fun h=>absurd h (by simp)⟩⟩⟩ ?_);(simp[up,h0]);(simp[up,h9]);(simp[up,h10]);(simp[up]);(simp[tradesF,hbk,hno]))
     |false=>
      rw[d1,d2]at hno'
      have d3:(x.back== -1)=false:=by simpa using (by simpa using hno':_∧_).1
      have d4:decide ((50:Int)≤(O'.length:Int))=true:=by simpa using (by simpa using hno':_∧_).2
      (have hb:=trivial;with_reducible repeat' (first|simp only[hb,Vb.down,seval,TY105.down,d1,d2,d3,d4,h0,h9,h10,h11,hd,hx,hw,hii,hbk,BTrade.cells,BCon.cells,e1,e2,e4,e5,a1,a3,a5,hct,hroom,hse,iv,sI_map,List.length_map,Bool.not_false,Bool.not_true,hln,hc1,hc2,hap1,hhp1,kl_get,kl_length,Nat.add_zero]|refine fsp ?_ ?_<;>intro hb|refine fd ?_|fail))
      (refine rnd_go (kJ _ _ (G',O',R++[(i:Int)],i+1) ⟨?_,?_,?_,?_,⟨true,wG,_,ov,_,rfl,by rw[qh_app,quietH_kl hqg];rfl,hwG,(fun h=>by cases h),hG',by dsimp only;omega,by simp;omega,rfl,(hown.kl hrow hsp.symm).app _,OwnS.blk (b:=g.length+2) (w:=false) (by simp[kl_get,iv]) (by omega) (by simp),(hown.sep (by omega)),⟨hx1,fun h=>absurd h (by simp)⟩⟩⟩ ?_);(simp[up,h0]);(simp[up,h9]);(simp[up,h10]);(simp[up]);(simp[tradesF,hbk,hno]))
   |false=>
    have hno':=hno
    simp only[tradeNo,spaceOf,hct,Option.map_some,Option.getD_some,Bool.or_eq_false_iff]at hno'
    obtain⟨⟨d1,d2⟩,d3⟩:=hno'
    cases c1:(x.back== -1)with
    |true=>
     (have hb:=trivial;with_reducible repeat' (first|simp only[hb,Vb.down,seval,TY105.down,d1,d2,c1,h0,h9,h10,h11,hd,hx,hw,hii,hbk,BTrade.cells,BCon.cells,e1,e2,e4,e5,a1,a3,a5,hct,hroom,hse,iv,sI_map,List.length_map,Bool.not_false,Bool.not_true,hln,hc1,hc2,kl_get,kl_length,Nat.add_zero,seP_some]|refine fsp ?_ ?_<;>intro hb|refine fd ?_|fail))
     (refine rnd_go (kJ _ _ (tradeG x G',O',R,i+1) ⟨?_,?_,?_,?_,⟨wr,true,g++[.live 5 true true [x.cells]],ov,rv,by simp[tradeG,BTrade.cells],by rw[qh_app,hqg];rfl,(fun h=>by cases h),hwr,by rw[tradeG_length];exact hG',by dsimp only;omega,by dsimp only;omega,rfl,hown.app _,hrow.app _,hsp,⟨hx1,hx2⟩⟩⟩ ?_);(simp[up,h0]);(simp[up,h9]);(simp[up,h10]);(simp[up]);(simp[tradesF,hbk,hno,c1]))
    |false=>
     have d4:decide ((50:Int)≤(O'.length:Int))=false:=by rw[c1]at d3;simpa using d3
     have hown':=hown
     rcases hown with⟨hO0,rfl⟩|⟨b,wo,rfl,hgb⟩
     ·obtain rfl:O'=[]:=List.map_eq_nil_iff.1 hO0
      have d5:decide ((50:Int)≤0)=false:=rfl
      have hno0:tradeNo s.cons x G' 0=false:=hno
      (have hb:=trivial;with_reducible repeat' (first|simp only[hb,Vb.down,seval,TY105.down,d1,d2,c1,d4,d5,List.length_nil,Int.natCast_zero,h0,h9,h10,h11,hd,hx,hw,hii,hbk,BTrade.cells,BCon.cells,e1,e2,e4,e5,a1,a3,a5,hct,hroom,hse,iv,sI_map,List.length_map,Bool.not_false,Bool.not_true,hln,hc2,kl_get,kl_length,Nat.add_zero,seP_some]|refine fsp ?_ ?_<;>intro hb|refine fd ?_|fail))
      (refine rnd_go (kJ _ _ (tradeG x G',[]++[x],R,i+1) ⟨?_,?_,?_,?_,⟨true,true,_,_,rv,rfl,by rw[qh_app,hqg];rfl,(fun h=>by cases h),(fun h=>by cases h),by rw[tradeG_length];exact hG',by simp;omega,by dsimp only;omega,rfl,OwnS.blk (b:=g.length+2) (w:=false) (by simp[BTrade.cells]) (by omega) (by simp),hrow.app _,(hrow.sep (by omega)).symm,⟨by simp,hx2⟩⟩⟩ ?_);(simp[up,h0]);(simp[up,h9]);(simp[up,h10]);(simp[up]);(simp[tradesF,hbk,hno0,c1]))
     ·have hbl:b<g.length:=(List.getElem?_eq_some_iff.1 hgb).1
      have hA:=get_app hgb
      have hS:=set_app hbl
      have hi39:(O'.length+1≤549755813888)=True:=eq_true (by omega)
      have hrk:=hrow.kl hown' hsp
      simp only[kl,Nat.add_sub_cancel]at hrk
      simp only[List.length_map]at hroom
      (have hb:=trivial;with_reducible repeat' (first|simp only[hb,Vb.down,seval,TY105.down,d1,d2,c1,d4,hA,hS,gset0,gsetk,List.length_set,hi39,h0,h9,h10,h11,hd,hx,hw,hii,hbk,BTrade.cells,BCon.cells,e1,e2,e4,e5,a1,a3,a5,hct,hroom,hse,iv,sI_map,List.length_map,Bool.not_false,Bool.not_true,hln,hc2,kl_get,kl_length,Nat.add_zero,seP_some]|refine fsp ?_ ?_<;>intro hb|refine fd ?_|fail))
      (refine rnd_go (kJ _ _ (tradeG x G',O'++[x],R,i+1) ⟨?_,?_,?_,?_,⟨true,true,_,_,rv,rfl,by rw[qh_app,quietH_set hqg b];rfl,(fun h=>by cases h),(fun h=>by cases h),by rw[tradeG_length];exact hG',by simp;omega,by dsimp only;omega,rfl,OwnS.blk (b:=g.length+2) (w:=false) (by rw[gsetk];simp[BTrade.cells]) (by omega) (by simp),hrk.app _,(hrow.sep (by omega)).symm,⟨by simp,hx2⟩⟩⟩ ?_);(simp[up,h0]);(simp[up,h9]);(simp[up,h10]);(simp[up]);(simp[tradesF,hbk,hno,c1]))
 ·exact⟨by simp[up,ent],by simp[up,ent],by simp[up,ent],by simp[up],⟨_,_,_,_,_,rfl,rfl,fun _=>rfl,fun _=>⟨rfl,rfl⟩,rfl,by simp,by simp,rfl,.inl ⟨by rw[hO];rfl,rfl⟩,.inl ⟨rfl,rfl⟩,Sep.nils _,⟨fun _=>rfl,fun _=>rfl⟩⟩⟩
 ·obtain⟨rfl,wr,wG,g,ov,rv,rfl,hqg,hwG,hwr,hown,hrow,hsp,⟨hx1,hx2⟩⟩:=hk
  generalize hr0:tradesF s.cons hr d.trades 0 (G,O,[])=r at *
  obtain⟨G',O',R⟩:=r
  dsimp only at *
  rcases hown with⟨hO0,rfl⟩|⟨b,wo,rfl,hgb⟩<;>rcases hrow with⟨hR0,rfl⟩|⟨b2,wR,rfl,hgr⟩
  ·(have hb:=trivial;with_reducible repeat' (first|simp only[hb,Vb.down,seval,TY105.down,List.length_map]|refine fsp ?_ ?_<;>intro hb|refine fd ?_|fail))
   exact⟨wr,wG,false,false,.nils,.nils,[],fun _ _ _ e=>by cases e;exact⟨hwG,(fun h=>by have q:=hwr h;first|(simp;done)|(simp at q ⊢ <;>first|exact q|omega)),rfl,.inl ⟨List.map_eq_nil_iff.1 hO0,List.map_eq_nil_iff.1 hR0,rfl,rfl,rfl⟩⟩⟩
  ·(have hb:=trivial;with_reducible repeat' (first|simp only[hb,Vb.down,seval,TY105.down,List.length_map,hgr]|refine fsp ?_ ?_<;>intro hb|refine fd ?_|fail))
   exact⟨wr,wG,false,wR,.nils,.slr 1 3 0 R.length,_,fun _ _ _ e=>by cases e;exact⟨hwG,(fun h=>by have q:=hwr h;first|(simp;done)|(simp at q ⊢ <;>first|exact q|omega)),rfl,.inr (.inr (.inl ⟨List.map_eq_nil_iff.1 hO0,fun h=>(by cases hx2 h),rfl,rfl,rfl⟩))⟩⟩
  ·(have hb:=trivial;with_reducible repeat' (first|simp only[hb,Vb.down,seval,TY105.down,List.length_map,hgb]|refine fsp ?_ ?_<;>intro hb|refine fd ?_|fail))
   exact⟨wr,wG,wo,false,.slr 5 3 0 O'.length,.nils,_,fun _ _ _ e=>by cases e;exact⟨hwG,(fun h=>by have q:=hwr h;first|(simp;done)|(simp at q ⊢ <;>first|exact q|omega)),rfl,.inr (.inl ⟨fun h=>(by cases hx1 h),List.map_eq_nil_iff.1 hR0,rfl,rfl,rfl⟩)⟩⟩
  ·have hne:(b=b2)=False:=eq_false fun e=>hsp _ _ _ _ _ _ _ _ rfl rfl (by omega)
   have hne':(b2=b)=False:=eq_false fun e=>hsp _ _ _ _ _ _ _ _ rfl rfl (by omega)
   (have hb:=trivial;with_reducible repeat' (first|simp only[hb,Vb.down,seval,TY105.down,List.length_map,hgb,hgr,hne,hne']|refine fsp ?_ ?_<;>intro hb|refine fd ?_|fail))
   exact⟨wr,wG,wo,wR,.slr 5 3 0 O'.length,.slr 1 4 0 R.length,_,fun _ _ _ e=>by cases e;exact⟨hwG,(fun h=>by have q:=hwr h;first|(simp;done)|(simp at q ⊢ <;>first|exact q|omega)),rfl,.inr (.inr (.inr ⟨fun h=>(by cases hx1 h),fun h=>(by cases hx2 h),rfl,rfl,rfl⟩))⟩⟩
theorem h_tradesB{s:BStore}{d:BDay}{w w1 w2 w3:Bool}{hr own fuel:Int}{G L:List Int}{O:List BTrade}(hG:G.length=s.cons.length)(hO:O.length≤1000)(hd50:d.trades.length≤1000)(ho:∀t∈d.trades,t.ok s.cons.length):
 ClQ om' 105 [.ptr 0 0 0] [.live 19 false w [(rc s d hr (.slr 1 1 0 G.length) own fuel (.slr 1 2 0 L.length) (.slr 5 3 0 O.length) .nils .nils .nils .nils)],.live 1 true w1 (G.map iv),.live 1 true w2 (L.map iv),.live 5 true w3 (O.map BTrade.cells)]
  fun o h'=>o=.ret (.tup [])∧∃(wr wG wo wR:Bool) (ov rv:AV) (T:Heap),∀G' O' R,tradesF s.cons hr d.trades 0 (G,O,[])=(G',O',R)→(wG=false→G'=G)∧(wr=false→ov=.slr 5 3 0 O.length∧rv=.nils)∧h'=[.live 19 false wr [(rc s d hr (.slr 1 1 0 G.length) own fuel (.slr 1 2 0 L.length) ov .nils .nils .nils rv)],.live 1 true wG (G'.map iv),.live 1 true w2 (L.map iv)]++T∧((R=[]∧O'=O∧ov=.slr 5 3 0 O'.length∧rv=.nils∧T=[.live 5 true wo (O'.map BTrade.cells)])∨(R≠[]∧O'=O∧ov=.slr 5 3 0 O'.length∧rv=.slr 1 4 0 R.length∧T=[.live 5 true wo (O'.map BTrade.cells),.live 1 true wR (R.map iv)])∨(R=[]∧ov=.slr 5 4 0 O'.length∧rv=.nils∧T=[.dead,.live 5 true wo (O'.map BTrade.cells)])∨(R≠[]∧ov=.slr 5 4 0 O'.length∧rv=.slr 1 5 0 R.length∧T=[.dead,.live 5 true wo (O'.map BTrade.cells),.live 1 true wR (R.map iv)])):=by
 have hl':d.trades.length≤maxLen:=by unfold maxLen;omega
 have hO1:O.length≤1000:=by first|exact hO|(rw[hO];simp)
 refine stOf rfl Tryz.func105 rfl rfl ?_
 simp only[Tryz.f105]
 (have hb:=trivial;with_reducible repeat' (first|simp only[hb,Vb.down,seval,TY105.down,List.length_map]|refine fsp ?_ ?_<;>intro hb|refine fd ?_|fail))
 refine fw_ot (lst 112 d.trades (fun i (zz:List Int × List BTrade × List Int × Nat) t h=>t 0=.ptr 0 0 0∧t 9=slv 5 true d.nt (d.trades.map BTrade.cells)∧t 10=.int .i64 d.trades.length∧t 11=.int .i64 i∧(∃wr wG g ov rv,h=.live 19 false wr [(rc s d hr (.slr 1 1 0 G.length) own fuel (.slr 1 2 0 L.length) ov .nils .nils .nils rv)]::.live 1 true wG (zz.1.map iv)::.live 1 true w2 (L.map iv)::g∧quietH g=true∧(wG=false→zz.1=G)∧(wr=false→ov=.slr 5 3 0 O.length∧rv=.nils)∧zz.1.length=G.length∧zz.2.1.length≤O.length+i∧zz.2.2.1.length≤i∧i=zz.2.2.2∧OwnS 3 5 true (zz.2.1.map BTrade.cells) ov g∧OwnS 3 1 true (zz.2.2.1.map iv) rv g∧Sep ov rv∧ov≠.nils∧(zz.2.2.1=[]→rv=.nils)∧P3 O ov zz.2.1 g)) (fun rest zz=>tradesF s.cons hr rest zz.2.2.2 (zz.1,zz.2.1,zz.2.2.1)) (fun r e t h=>e=.exit 0∧∃wr wG g ov rv,h=.live 19 false wr [(rc s d hr (.slr 1 1 0 G.length) own fuel (.slr 1 2 0 L.length) ov .nils .nils .nils rv)]::.live 1 true wG (r.1.map iv)::.live 1 true w2 (L.map iv)::g∧quietH g=true∧(wG=false→r.1=G)∧(wr=false→ov=.slr 5 3 0 O.length∧rv=.nils)∧OwnS 3 5 true (r.2.1.map BTrade.cells) ov g∧OwnS 3 1 true (r.2.2.map iv) rv g∧Sep ov rv∧ov≠.nils∧(r.2.2=[]→rv=.nils)∧P3 O ov r.2.1 g) ?_ ?_ (G,O,[],0) _ _ ?_) (fun e t h hk=>?_)
 ·rintro⟨G',O',R,k⟩ t h Q' kQ ⟨h0,h9,h10,h11,⟨wr,wG,g,ov,rv,rfl,hqg,hwG,hwr,hG',hOl,hRl,rfl,hown,hrow,hsp,⟨hx1,hx2,hx3⟩⟩⟩
  try dsimp only at *
  (have hb:=trivial;with_reducible repeat' (first|simp only[hb,Vb.down,seval,TY105.down,h0,h9,h10,h11,Int.lt_irrefl,decide_false]|refine fsp ?_ ?_<;>intro hb|refine fd ?_|fail))
  exact kQ _ _ _ ⟨rfl,wr,wG,g,ov,rv,rfl,hqg,hwG,hwr,hown,hrow,hsp,⟨hx1,hx2,hx3⟩⟩
 ·rintro x rest i ⟨G',O',R,k⟩ t h J Q' kJ kQ hx hi ⟨h0,h9,h10,h11,⟨wr,wG,g,ov,rv,rfl,hqg,hwG,hwr,hG',hOl,hRl,rfl,hown,hrow,hsp,⟨hx1,hx2,hx3⟩⟩⟩
  have hd:decide ((i:Int)<(d.trades.length:Int))=true:=decide_eq_true (by omega)
  have hw:=wrap_next hi hl'
  try dsimp only at *
  obtain⟨⟨f0,f1⟩,k0,k1⟩:=ho x (List.mem_of_getElem? hx)
  have e1:(0≤x.to)=True:=eq_true k0
  have e2:(x.to<(G.length:Int))=True:=eq_true (by omega)
  have e4:(0≤x.frm)=True:=eq_true f0
  have e5:(x.frm<(G.length:Int))=True:=eq_true (by omega)
  have hii:((i:Int)<(d.trades.length:Int))=True:=eq_true (by omega)
  obtain⟨ct,hct⟩:∃c,s.cons[x.to.toNat]?=some c:=⟨_,List.getElem?_eq_getElem (by omega)⟩
  have a1:G'[x.to.toNat]?=some (gI G' x.to):=gI_at (by omega)
  have a3:G'[x.frm.toNat]?=some (gI G' x.frm):=gI_at (by omega)
  have a5:∀v,(sI G' x.frm v)[x.to.toNat]?=some (gI (sI G' x.frm v) x.to):=fun v=>gI_at (by rw[sI_length];omega)
  have hroom:∀(tl:Heap),om'.call (.sh 130) [.ptr 0 0 0,.int .i64 x.to] (.live 19 false false [(rc s d hr (.slr 1 1 0 G.length) own fuel (.slr 1 2 0 L.length) ov .nils .nils .nils rv)]::.live 1 true false (G'.map iv)::tl)=
   some (.ret (.int .i64 (IntKind.i64.wrap (ct.space-gI G' x.to))),.live 19 false false [(rc s d hr (.slr 1 1 0 G.length) own fuel (.slr 1 2 0 L.length) ov .nils .nils .nils rv)]::.live 1 true false (G'.map iv)::tl):=fun tl=>
   h_room (b:=0) (bg:=1) (n:=G.length) hG' rfl rfl ⟨k0,by omega⟩ hct
  have hse:=fun i l l'=>se_app hqg i l l'
  have hln:=hown.ln Tryz.underlying46
  have hc1:=OwnS.cell hown
  have hc2:=OwnS.cell hrow
  have hc3:=OwnS.acells hown
  have hc4:=OwnS.acells hrow
  cases hbk:(x.hour==hr)with
  |false=>
   (have hb:=trivial;with_reducible repeat' (first|simp only[hb,Vb.down,seval,TY105.down,h0,h9,h10,h11,hd,hx,hw,hii,hbk,BTrade.cells,List.length_map,Bool.not_false]|refine fsp ?_ ?_<;>intro hb|refine fd ?_|fail))
   (refine rnd_go (kJ _ _ (G',O',R,i+1) ⟨?_,?_,?_,?_,⟨wr,wG,_,ov,rv,rfl,by rw[qh_app,hqg];rfl,hwG,hwr,hG',by dsimp only;omega,by dsimp only;omega,rfl,hown.app _,hrow.app _,hsp,⟨hx1,hx2,hx3.app _⟩⟩⟩ ?_);(simp[up,h0]);(simp[up,h9]);(simp[up,h10]);(simp[up]);(simp[tradesF,hbk]))
  |true=>
   cases hno:tradeNo s.cons x G' O'.length with
   |true=>
    have hap1:=fun(q:Heap) (r:List AV)=>apK_own hrow (pre:=[.live 19 false wr [(rc s d hr (.slr 1 1 0 G.length) own fuel (.slr 1 2 0 L.length) ov .nils .nils .nils rv)],.live 1 true wG (G'.map iv),.live 1 true w2 (L.map iv)]) rfl q r [] (by simp;omega)
    have hhp1:=fun(q:Heap) (r:List (List AV)) (ba:Nat)=>happ_apE hrow (pre:=[.live 19 false wr [(rc s d hr (.slr 1 1 0 G.length) own fuel (.slr 1 2 0 L.length) ov .nils .nils .nils rv)],.live 1 true wG (G'.map iv),.live 1 true w2 (L.map iv)]) rfl q 1 true r ba
    simp only[List.cons_append,List.append_assoc,List.nil_append,List.length_map,List.length_cons,List.length_append,List.length_nil,kl_length,Nat.reduceAdd]at hap1 hhp1
    have hno':=hno
    simp only[tradeNo,spaceOf,hct,Option.map_some,Option.getD_some]at hno'
    cases d1:decide (gI G' x.frm<x.amount)with
    |true=>
     (have hb:=trivial;with_reducible repeat' (first|simp only[hb,Vb.down,seval,TY105.down,d1,h0,h9,h10,h11,hd,hx,hw,hii,hbk,BTrade.cells,BCon.cells,e1,e2,e4,e5,a1,a3,a5,hct,hroom,hse,iv,sI_map,List.length_map,Bool.not_false,Bool.not_true,hln,hc1,hc2,hap1,hhp1,kl_get,kl_length,Nat.add_zero]|refine fsp ?_ ?_<;>intro hb|refine fd ?_|fail))
     (refine rnd_go (kJ _ _ (G',O',R++[(i:Int)],i+1) ⟨?_,?_,?_,?_,⟨true,wG,_,ov,_,rfl,by rw[qh_app,quietH_kl hqg];rfl,hwG,(fun h=>by cases h),hG',by dsimp only;omega,by simp;omega,rfl,(hown.kl hrow hsp.symm).app _,OwnS.blk (b:=g.length+2) (w:=false) (by simp[kl_get,iv]) (by omega) (by simp),(hown.sep (by omega)),⟨hx1,fun h=>absurd h (by simp),(hx3.kl hrow).app _⟩⟩⟩ ?_);(simp[up,h0]);(simp[up,h9]);(simp[up,h10]);(simp[up]);(simp[tradesF,hbk,hno]))
    |false=>
     cases d2:decide (IntKind.i64.wrap (ct.space-gI G' x.to)<x.amount)with
     |true=>
      (have hb:=trivial;with_reducible repeat' (first|simp only[hb,Vb.down,seval,TY105.down,d1,d2,h0,h9,h10,h11,hd,hx,hw,hii,hbk,BTrade.cells,BCon.cells,e1,e2,e4,e5,a1,a3,a5,hct,hroom,hse,iv,sI_map,List.length_map,Bool.not_false,Bool.not_true,hln,hc1,hc2,hap1,hhp1,kl_get,kl_length,Nat.add_zero]|refine fsp ?_ ?_<;>intro hb|refine fd ?_|fail))
      (refine rnd_go (kJ _ _ (G',O',R++[(i:Int)],i+1) ⟨?_,?_,?_,?_,⟨true,wG,_,ov,_,rfl,by rw[qh_app,quietH_kl hqg];rfl,hwG,(fun h=>by cases h),hG',by dsimp only;omega,by simp;omega,rfl,(hown.kl hrow hsp.symm).app _,OwnS.blk (b:=g.length+2) (w:=false) (by simp[kl_get,iv]) (by omega) (by simp),(hown.sep (by omega)),⟨hx1,fun h=>absurd h (by simp),(hx3.kl hrow).app _⟩⟩⟩ ?_);(simp[up,h0]);(simp[up,h9]);(simp[up,h10]);(simp[up]);(simp[tradesF,hbk,hno]))
     |false=>
      rw[d1,d2]at hno'
      have d3:(x.back== -1)=false:=by simpa using (by simpa using hno':_∧_).1
      have d4:decide ((50:Int)≤(O'.length:Int))=true:=by simpa using (by simpa using hno':_∧_).2
      (have hb:=trivial;with_reducible repeat' (first|simp only[hb,Vb.down,seval,TY105.down,d1,d2,d3,d4,h0,h9,h10,h11,hd,hx,hw,hii,hbk,BTrade.cells,BCon.cells,e1,e2,e4,e5,a1,a3,a5,hct,hroom,hse,iv,sI_map,List.length_map,Bool.not_false,Bool.not_true,hln,hc1,hc2,hap1,hhp1,kl_get,kl_length,Nat.add_zero]|refine fsp ?_ ?_<;>intro hb|refine fd ?_|fail))
      (refine rnd_go (kJ _ _ (G',O',R++[(i:Int)],i+1) ⟨?_,?_,?_,?_,⟨true,wG,_,ov,_,rfl,by rw[qh_app,quietH_kl hqg];rfl,hwG,(fun h=>by cases h),hG',by dsimp only;omega,by simp;omega,rfl,(hown.kl hrow hsp.symm).app _,OwnS.blk (b:=g.length+2) (w:=false) (by simp[kl_get,iv]) (by omega) (by simp),(hown.sep (by omega)),⟨hx1,fun h=>absurd h (by simp),(hx3.kl hrow).app _⟩⟩⟩ ?_);(simp[up,h0]);(simp[up,h9]);(simp[up,h10]);(simp[up]);(simp[tradesF,hbk,hno]))
   |false=>
    have hno':=hno
    simp only[tradeNo,spaceOf,hct,Option.map_some,Option.getD_some,Bool.or_eq_false_iff]at hno'
    obtain⟨⟨d1,d2⟩,d3⟩:=hno'
    cases c1:(x.back== -1)with
    |true=>
     (have hb:=trivial;with_reducible repeat' (first|simp only[hb,Vb.down,seval,TY105.down,d1,d2,c1,h0,h9,h10,h11,hd,hx,hw,hii,hbk,BTrade.cells,BCon.cells,e1,e2,e4,e5,a1,a3,a5,hct,hroom,hse,iv,sI_map,List.length_map,Bool.not_false,Bool.not_true,hln,hc1,hc2,kl_get,kl_length,Nat.add_zero,seP_some]|refine fsp ?_ ?_<;>intro hb|refine fd ?_|fail))
     (refine rnd_go (kJ _ _ (tradeG x G',O',R,i+1) ⟨?_,?_,?_,?_,⟨wr,true,g++[.live 5 true true [x.cells]],ov,rv,by simp[tradeG,BTrade.cells],by rw[qh_app,hqg];rfl,(fun h=>by cases h),hwr,by rw[tradeG_length];exact hG',by dsimp only;omega,by dsimp only;omega,rfl,hown.app _,hrow.app _,hsp,⟨hx1,hx2,hx3.app _⟩⟩⟩ ?_);(simp[up,h0]);(simp[up,h9]);(simp[up,h10]);(simp[up]);(simp[tradesF,hbk,hno,c1]))
    |false=>
     have d4:decide ((50:Int)≤(O'.length:Int))=false:=by rw[c1]at d3;simpa using d3
     have hown':=hown
     rcases hown with⟨hO0,rfl⟩|⟨b,wo,rfl,hgb⟩
     ·obtain rfl:O'=[]:=List.map_eq_nil_iff.1 hO0
      have d5:decide ((50:Int)≤0)=false:=rfl
      have hno0:tradeNo s.cons x G' 0=false:=hno
      (have hb:=trivial;with_reducible repeat' (first|simp only[hb,Vb.down,seval,TY105.down,d1,d2,c1,d4,d5,List.length_nil,Int.natCast_zero,h0,h9,h10,h11,hd,hx,hw,hii,hbk,BTrade.cells,BCon.cells,e1,e2,e4,e5,a1,a3,a5,hct,hroom,hse,iv,sI_map,List.length_map,Bool.not_false,Bool.not_true,hln,hc2,kl_get,kl_length,Nat.add_zero,seP_some]|refine fsp ?_ ?_<;>intro hb|refine fd ?_|fail))
      (refine rnd_go (kJ _ _ (tradeG x G',[]++[x],R,i+1) ⟨?_,?_,?_,?_,⟨true,true,_,_,rv,rfl,by rw[qh_app,hqg];rfl,(fun h=>by cases h),(fun h=>by cases h),by rw[tradeG_length];exact hG',by simp;omega,by dsimp only;omega,rfl,OwnS.blk (b:=g.length+2) (w:=false) (by simp[BTrade.cells]) (by omega) (by simp),hrow.app _,(hrow.sep (by omega)).symm,absurd rfl hx1⟩⟩ ?_);(simp[up,h0]);(simp[up,h9]);(simp[up,h10]);(simp[up]);(simp[tradesF,hbk,hno0,c1]))
     ·have hbl:b<g.length:=(List.getElem?_eq_some_iff.1 hgb).1
      have hA:=get_app hgb
      have hS:=set_app hbl
      have hi39:(O'.length+1≤549755813888)=True:=eq_true (by omega)
      have hrk:=hrow.kl hown' hsp
      simp only[kl,Nat.add_sub_cancel]at hrk
      simp only[List.length_map]at hroom
      (have hb:=trivial;with_reducible repeat' (first|simp only[hb,Vb.down,seval,TY105.down,d1,d2,c1,d4,hA,hS,gset0,gsetk,List.length_set,hi39,h0,h9,h10,h11,hd,hx,hw,hii,hbk,BTrade.cells,BCon.cells,e1,e2,e4,e5,a1,a3,a5,hct,hroom,hse,iv,sI_map,List.length_map,Bool.not_false,Bool.not_true,hln,hc2,kl_get,kl_length,Nat.add_zero,seP_some]|refine fsp ?_ ?_<;>intro hb|refine fd ?_|fail))
      (refine rnd_go (kJ _ _ (tradeG x G',O'++[x],R,i+1) ⟨?_,?_,?_,?_,⟨true,true,_,_,rv,rfl,by rw[qh_app,quietH_set hqg b];rfl,(fun h=>by cases h),(fun h=>by cases h),by rw[tradeG_length];exact hG',by simp;omega,by dsimp only;omega,rfl,OwnS.blk (b:=g.length+2) (w:=false) (by rw[gsetk];simp[BTrade.cells]) (by omega) (by simp),hrk.app _,(hrow.sep (by omega)).symm,⟨by simp,hx2,(hx3.dead hbl).app _⟩⟩⟩ ?_);(simp[up,h0]);(simp[up,h9]);(simp[up,h10]);(simp[up]);(simp[tradesF,hbk,hno,c1]))
 ·exact⟨by simp[up,ent],by simp[up,ent],by simp[up,ent],by simp[up],⟨_,_,_,_,_,rfl,rfl,fun _=>rfl,fun _=>⟨rfl,rfl⟩,rfl,by simp,by simp,rfl,OwnS.blk (b:=0) rfl rfl (by simp),.inl ⟨rfl,rfl⟩,Sep.nils _,⟨by simp,fun _=>rfl,.inr ⟨_,rfl,rfl,rfl⟩⟩⟩⟩
 ·obtain⟨rfl,wr,wG,g,ov,rv,rfl,hqg,hwG,hwr,hown,hrow,hsp,⟨hx1,hx2,hx3⟩⟩:=hk
  generalize hr0:tradesF s.cons hr d.trades 0 (G,O,[])=r at *
  obtain⟨G',O',R⟩:=r
  dsimp only at *
  rcases hown with⟨hO0,rfl⟩|⟨b,wo,rfl,hgb⟩
  ·exact absurd rfl hx1
  by_cases hb0:b=0
  ·subst hb0
   have hOO:O'=O:=by
    rcases hx3 with h|⟨w',_,_,h⟩
    ·rw[hgb]at h;cases h
    ·exact h
   rcases hrow with⟨hR0,rfl⟩|⟨b2,wR,rfl,hgr⟩
   ·(have hb:=trivial;with_reducible repeat' (first|simp only[hb,Vb.down,seval,TY105.down,List.length_map,hgb,Nat.zero_add]|refine fsp ?_ ?_<;>intro hb|refine fd ?_|fail))
    exact⟨wr,wG,wo,false,.slr 5 3 0 O'.length,.nils,_,fun _ _ _ e=>by cases e;exact⟨hwG,(fun h=>by have q:=hwr h;first|(simp;done)|(simp at q ⊢ <;>first|exact q|omega)),rfl,.inl ⟨List.map_eq_nil_iff.1 hR0,hOO,rfl,rfl,rfl⟩⟩⟩
   ·have hne:(b2=0)=False:=eq_false fun e=>hsp _ _ _ _ _ _ _ _ rfl rfl (by omega)
    (have hb:=trivial;with_reducible repeat' (first|simp only[hb,Vb.down,seval,TY105.down,List.length_map,hgb,hgr,hne,Nat.zero_add]|refine fsp ?_ ?_<;>intro hb|refine fd ?_|fail))
    exact⟨wr,wG,wo,wR,.slr 5 3 0 O'.length,.slr 1 4 0 R.length,_,fun _ _ _ e=>by cases e;exact⟨hwG,(fun h=>by have q:=hwr h;first|(simp;done)|(simp at q ⊢ <;>first|exact q|omega)),rfl,.inr (.inl ⟨fun h=>(by cases hx2 h),hOO,rfl,rfl,rfl⟩)⟩⟩
  ·have hgd:g[0]?=some .dead:=by
    rcases hx3 with h|⟨w',_,h,_⟩
    ·exact h
    ·simp only[AV.slr.injEq]at h;omega
   have hbf:(b=0)=False:=eq_false hb0
   rcases hrow with⟨hR0,rfl⟩|⟨b2,wR,rfl,hgr⟩
   ·(have hb:=trivial;with_reducible repeat' (first|simp only[hb,Vb.down,seval,TY105.down,List.length_map,hgb,hgd,hbf]|refine fsp ?_ ?_<;>intro hb|refine fd ?_|fail))
    exact⟨wr,wG,wo,false,.slr 5 4 0 O'.length,.nils,_,fun _ _ _ e=>by cases e;exact⟨hwG,(fun h=>by have q:=hwr h;first|(simp;done)|(simp at q ⊢ <;>first|exact q|omega)),rfl,.inr (.inr (.inl ⟨List.map_eq_nil_iff.1 hR0,rfl,rfl,rfl⟩))⟩⟩
   ·have hne:(b=b2)=False:=eq_false fun e=>hsp _ _ _ _ _ _ _ _ rfl rfl (by omega)
    have hne':(b2=b)=False:=eq_false fun e=>hsp _ _ _ _ _ _ _ _ rfl rfl (by omega)
    have hne2:(b2=0)=False:=eq_false fun e=>by subst e;rw[hgd]at hgr;cases hgr
    (have hb:=trivial;with_reducible repeat' (first|simp only[hb,Vb.down,seval,TY105.down,List.length_map,hgb,hgr,hgd,hbf,hne,hne',hne2]|refine fsp ?_ ?_<;>intro hb|refine fd ?_|fail))
    exact⟨wr,wG,wo,wR,.slr 5 4 0 O'.length,.slr 1 5 0 R.length,_,fun _ _ _ e=>by cases e;exact⟨hwG,(fun h=>by have q:=hwr h;first|(simp;done)|(simp at q ⊢ <;>first|exact q|omega)),rfl,.inr (.inr (.inr ⟨fun h=>(by cases hx2 h),rfl,rfl,rfl⟩))⟩⟩
theorem h_grantsA{s:BStore}{d:BDay}{w w1 w2 w3 w4 w5:Bool}{hr own fuel:Int}{G L W R:List Int}{O:List BTrade}{x:BHour}(hW:W.length=s.cons.length)(hl:W.length≤1000)(hne:W≠[])(h0:0≤hr)(hx:d.hours[hr.toNat]?=some x):
 ClQ om' 107 [.ptr 0 0 0] [.live 19 false w [(rc s d hr (.slr 1 1 0 G.length) own fuel (.slr 1 2 0 L.length) .nils (.slr 1 3 0 W.length) .nils .nils .nils)],.live 1 true w1 (G.map iv),.live 1 true w2 (L.map iv),.live 1 true w4 (W.map iv)]
  fun o h'=>o=.ret (.tup [])∧h'=[.live 19 false true [(rc s d hr (.slr 1 1 0 G.length) own fuel (.slr 1 2 0 L.length) .nils (.slr 1 3 0 W.length) (.slr 1 4 0 W.length) .nils .nils)],.live 1 true w1 (G.map iv),.live 1 true w2 (L.map iv),.live 1 true w4 (W.map iv),.live 1 true false ((grantAll grantL s.cons W x.inn x.out).map iv)]:=by
 have g1:=e_grant (nn:=true) (most:=x.inn) (least:=x.out) hW hl hne
 rw[slv_true]at g1
 have htk:(W.map iv).take W.length=W.map iv:=List.take_of_length_le (by simp)
 have h39:(W.length≤549755813888)=True:=eq_true (by omega)
 have hh:∀tl:Heap,om'.call (.sh 133) [.ptr 0 0 0] (.live 19 false false [(rc s d hr (.slr 1 1 0 G.length) own fuel (.slr 1 2 0 L.length) .nils (.slr 1 3 0 W.length) .nils .nils .nils)]::tl)=some (.ret (.agg x.cells),.live 19 false false [(rc s d hr (.slr 1 1 0 G.length) own fuel (.slr 1 2 0 L.length) .nils (.slr 1 3 0 W.length) .nils .nils .nils)]::tl++[.live 4 true true [x.cells]]):=fun tl=>h_hour (b:=0) rfl h0 hx
 refine stOf rfl Tryz.func107 rfl rfl ?_
 simp only[Tryz.f107]
 (have hb:=trivial;with_reducible repeat' (first|simp only[hb,Vb.down,seval,TY107.down,List.length_map,hh,BHour.cells,g1,htk,h39]|refine fsp ?_ ?_<;>intro hb|refine fd ?_|fail))
theorem h_grantsB{s:BStore}{d:BDay}{w w1 w2 w3 w4 w5:Bool}{hr own fuel:Int}{G L W R:List Int}{O:List BTrade}{x:BHour}(hW:W.length=s.cons.length)(hl:W.length≤1000)(hne:W≠[])(h0:0≤hr)(hx:d.hours[hr.toNat]?=some x):
 ClQ om' 107 [.ptr 0 0 0] [.live 19 false w [(rc s d hr (.slr 1 1 0 G.length) own fuel (.slr 1 2 0 L.length) (.slr 5 3 0 O.length) (.slr 1 4 0 W.length) .nils .nils .nils)],.live 1 true w1 (G.map iv),.live 1 true w2 (L.map iv),.live 5 true w3 (O.map BTrade.cells),.live 1 true w4 (W.map iv)]
  fun o h'=>o=.ret (.tup [])∧h'=[.live 19 false true [(rc s d hr (.slr 1 1 0 G.length) own fuel (.slr 1 2 0 L.length) (.slr 5 3 0 O.length) (.slr 1 4 0 W.length) (.slr 1 5 0 W.length) .nils .nils)],.live 1 true w1 (G.map iv),.live 1 true w2 (L.map iv),.live 5 true w3 (O.map BTrade.cells),.live 1 true w4 (W.map iv),.live 1 true false ((grantAll grantL s.cons W x.inn x.out).map iv)]:=by
 have g1:=e_grant (nn:=true) (most:=x.inn) (least:=x.out) hW hl hne
 rw[slv_true]at g1
 have htk:(W.map iv).take W.length=W.map iv:=List.take_of_length_le (by simp)
 have h39:(W.length≤549755813888)=True:=eq_true (by omega)
 have hh:∀tl:Heap,om'.call (.sh 133) [.ptr 0 0 0] (.live 19 false false [(rc s d hr (.slr 1 1 0 G.length) own fuel (.slr 1 2 0 L.length) (.slr 5 3 0 O.length) (.slr 1 4 0 W.length) .nils .nils .nils)]::tl)=some (.ret (.agg x.cells),.live 19 false false [(rc s d hr (.slr 1 1 0 G.length) own fuel (.slr 1 2 0 L.length) (.slr 5 3 0 O.length) (.slr 1 4 0 W.length) .nils .nils .nils)]::tl++[.live 4 true true [x.cells]]):=fun tl=>h_hour (b:=0) rfl h0 hx
 refine stOf rfl Tryz.func107 rfl rfl ?_
 simp only[Tryz.f107]
 (have hb:=trivial;with_reducible repeat' (first|simp only[hb,Vb.down,seval,TY107.down,List.length_map,hh,BHour.cells,g1,htk,h39]|refine fsp ?_ ?_<;>intro hb|refine fd ?_|fail))
theorem h_grantsC{s:BStore}{d:BDay}{w w1 w2 w3 w4 w5:Bool}{hr own fuel:Int}{G L W R:List Int}{O:List BTrade}{x:BHour}(hW:W.length=s.cons.length)(hl:W.length≤1000)(hne:W≠[])(h0:0≤hr)(hx:d.hours[hr.toNat]?=some x):
 ClQ om' 107 [.ptr 0 0 0] [.live 19 false w [(rc s d hr (.slr 1 1 0 G.length) own fuel (.slr 1 2 0 L.length) .nils (.slr 1 3 0 W.length) .nils .nils (.slr 1 4 0 R.length))],.live 1 true w1 (G.map iv),.live 1 true w2 (L.map iv),.live 1 true w4 (W.map iv),.live 1 true w5 (R.map iv)]
  fun o h'=>o=.ret (.tup [])∧h'=[.live 19 false true [(rc s d hr (.slr 1 1 0 G.length) own fuel (.slr 1 2 0 L.length) .nils (.slr 1 3 0 W.length) (.slr 1 5 0 W.length) .nils (.slr 1 4 0 R.length))],.live 1 true w1 (G.map iv),.live 1 true w2 (L.map iv),.live 1 true w4 (W.map iv),.live 1 true w5 (R.map iv),.live 1 true false ((grantAll grantL s.cons W x.inn x.out).map iv)]:=by
 have g1:=e_grant (nn:=true) (most:=x.inn) (least:=x.out) hW hl hne
 rw[slv_true]at g1
 have htk:(W.map iv).take W.length=W.map iv:=List.take_of_length_le (by simp)
 have h39:(W.length≤549755813888)=True:=eq_true (by omega)
 have hh:∀tl:Heap,om'.call (.sh 133) [.ptr 0 0 0] (.live 19 false false [(rc s d hr (.slr 1 1 0 G.length) own fuel (.slr 1 2 0 L.length) .nils (.slr 1 3 0 W.length) .nils .nils (.slr 1 4 0 R.length))]::tl)=some (.ret (.agg x.cells),.live 19 false false [(rc s d hr (.slr 1 1 0 G.length) own fuel (.slr 1 2 0 L.length) .nils (.slr 1 3 0 W.length) .nils .nils (.slr 1 4 0 R.length))]::tl++[.live 4 true true [x.cells]]):=fun tl=>h_hour (b:=0) rfl h0 hx
 refine stOf rfl Tryz.func107 rfl rfl ?_
 simp only[Tryz.f107]
 (have hb:=trivial;with_reducible repeat' (first|simp only[hb,Vb.down,seval,TY107.down,List.length_map,hh,BHour.cells,g1,htk,h39]|refine fsp ?_ ?_<;>intro hb|refine fd ?_|fail))
theorem h_grantsD{s:BStore}{d:BDay}{w w1 w2 w3 w4 w5:Bool}{hr own fuel:Int}{G L W R:List Int}{O:List BTrade}{x:BHour}(hW:W.length=s.cons.length)(hl:W.length≤1000)(hne:W≠[])(h0:0≤hr)(hx:d.hours[hr.toNat]?=some x):
 ClQ om' 107 [.ptr 0 0 0] [.live 19 false w [(rc s d hr (.slr 1 1 0 G.length) own fuel (.slr 1 2 0 L.length) (.slr 5 3 0 O.length) (.slr 1 4 0 W.length) .nils .nils (.slr 1 5 0 R.length))],.live 1 true w1 (G.map iv),.live 1 true w2 (L.map iv),.live 5 true w3 (O.map BTrade.cells),.live 1 true w4 (W.map iv),.live 1 true w5 (R.map iv)]
  fun o h'=>o=.ret (.tup [])∧h'=[.live 19 false true [(rc s d hr (.slr 1 1 0 G.length) own fuel (.slr 1 2 0 L.length) (.slr 5 3 0 O.length) (.slr 1 4 0 W.length) (.slr 1 6 0 W.length) .nils (.slr 1 5 0 R.length))],.live 1 true w1 (G.map iv),.live 1 true w2 (L.map iv),.live 5 true w3 (O.map BTrade.cells),.live 1 true w4 (W.map iv),.live 1 true w5 (R.map iv),.live 1 true false ((grantAll grantL s.cons W x.inn x.out).map iv)]:=by
 have g1:=e_grant (nn:=true) (most:=x.inn) (least:=x.out) hW hl hne
 rw[slv_true]at g1
 have htk:(W.map iv).take W.length=W.map iv:=List.take_of_length_le (by simp)
 have h39:(W.length≤549755813888)=True:=eq_true (by omega)
 have hh:∀tl:Heap,om'.call (.sh 133) [.ptr 0 0 0] (.live 19 false false [(rc s d hr (.slr 1 1 0 G.length) own fuel (.slr 1 2 0 L.length) (.slr 5 3 0 O.length) (.slr 1 4 0 W.length) .nils .nils (.slr 1 5 0 R.length))]::tl)=some (.ret (.agg x.cells),.live 19 false false [(rc s d hr (.slr 1 1 0 G.length) own fuel (.slr 1 2 0 L.length) (.slr 5 3 0 O.length) (.slr 1 4 0 W.length) .nils .nils (.slr 1 5 0 R.length))]::tl++[.live 4 true true [x.cells]]):=fun tl=>h_hour (b:=0) rfl h0 hx
 refine stOf rfl Tryz.func107 rfl rfl ?_
 simp only[Tryz.f107]
 (have hb:=trivial;with_reducible repeat' (first|simp only[hb,Vb.down,seval,TY107.down,List.length_map,hh,BHour.cells,g1,htk,h39]|refine fsp ?_ ?_<;>intro hb|refine fd ?_|fail))
theorem e_flows1(x:Int):om'.call (.fn 134) [.int .i64 x] []=some (.ret (.int .i64 x),[]):=by
 (refine ce Tryz.func134 ?_;simp only[Tryz.f134];(have hb:=trivial;with_reducible repeat' (first|simp only[hb,Vb.down,seval]|refine fsp ?_ ?_<;>intro hb|refine fd ?_|fail)))
def flowI(A:List Int)(x:BHour):Int:=min2 x.flowIn (sumF (A.map posI) 0)
def flowO(A:List Int)(x:BHour):Int:=min2 x.flowOut (sumF (A.map negI) 0)
def shareL(a:Int)(l:List Int):List Int:=shareF a (sumF l 0) l 0 0
def flowsL(A:List Int)(x:BHour):List Int:=List.zipWith subW (shareL (flowI A x) (A.map posI)) (shareL (flowO A x) (A.map negI))
def ownL(A:List Int)(x:BHour)(own:Int):Int:=IntKind.i64.wrap (own+IntKind.i64.wrap (IntKind.i64.wrap (x.flowIn-flowI A x)-IntKind.i64.wrap (x.flowOut-flowO A x)))
theorem shareF_len(a w:Int):∀(l:List Int) (so got:Int),(shareF a w l so got).length=l.length
 | [],_,_=>rfl
 |x::l,so,got=>by unfold shareF;simp[shareF_len a w l]
theorem h_flowsA{s:BStore}{d:BDay}{w w1 w2 w3 w4 w5 w6:Bool}{hr own fuel:Int}{G L W A R:List Int}{O:List BTrade}{x:BHour}(hl:A.length≤1000)(hne:A≠[])(h0:0≤hr)(hx:d.hours[hr.toNat]?=some x):
 ClQ om' 108 [.ptr 0 0 0] [.live 19 false w [(rc s d hr (.slr 1 1 0 G.length) own fuel (.slr 1 2 0 L.length) .nils (.slr 1 3 0 W.length) (.slr 1 4 0 A.length) .nils .nils)],.live 1 true w1 (G.map iv),.live 1 true w2 (L.map iv),.live 1 true w4 (W.map iv),.live 1 true w6 (A.map iv)]
  fun o h'=>o=.ret (.tup [])∧h'=[.live 19 false true [(rc s d hr (.slr 1 1 0 G.length) ((ownL A x own)) fuel (.slr 1 2 0 L.length) .nils (.slr 1 3 0 W.length) (.slr 1 4 0 A.length) (.slr 1 5 0 A.length) .nils)],.live 1 true w1 (G.map iv),.live 1 true w2 (L.map iv),.live 1 true w4 (W.map iv),.live 1 true w6 (A.map iv),.live 1 true false ((flowsL A x).map iv)]:=by
 have g1:=e_sides (l:=A) (nn:=true) hl hne
 rw[slv_true]at g1
 have g2:=e_sum (l:=A.map posI) (nn:=true) (by simp[maxLen];omega)
 have g3:=e_sum (l:=A.map negI) (nn:=true) (by simp[maxLen];omega)
 rw[slv_true]at g2 g3
 have m1:∀l:List Int,l.map (fun x=>x)=l:=fun l=>by simp
 have g4:=e_shareC (amount:=flowI A x) (l:=A.map posI) (nn:=true) (g:=134) (w:=fun x=>x) (fun x _=>e_flows1 x) (by simpa using hl)
 have g5:=e_shareC (amount:=flowO A x) (l:=A.map negI) (nn:=true) (g:=134) (w:=fun x=>x) (fun x _=>e_flows1 x) (by simpa using hl)
 rw[m1,slv_true,List.length_map,List.nil_append]at g4 g5
 have k2:(shareL (flowI A x) (A.map posI)).length=A.length:=by unfold shareL;rw[shareF_len];simp
 have k3:(shareL (flowO A x) (A.map negI)).length=A.length:=by unfold shareL;rw[shareF_len];simp
 have k1:shareL (flowI A x) (A.map posI)≠[]:=fun e=>hne (List.length_eq_zero_iff.1 (by rw[←k2,e];rfl))
 have g6:=e_joined' (shareL (flowI A x) (A.map posI)) (shareL (flowO A x) (A.map negI)) true true (by omega) (by omega) _ _ (fun e=>(k1 e).elim) (fun _=>rfl)
 rw[slv_true,slv_true,k2]at g6
 have htk:∀l:List Int,l.length=A.length→(l.map iv).take A.length=l.map iv:=fun l h=>List.take_of_length_le (by simp[h])
 have t1:=htk A rfl
 have t2:=htk (A.map posI) (by simp)
 have t3:=htk (A.map negI) (by simp)
 have t4:=htk _ k2
 have t5:=htk _ k3
 unfold shareL at t4 t5 g6 k2 k3
 have h39:(A.length≤549755813888)=True:=eq_true (by omega)
 have hh:∀tl:Heap,om'.call (.sh 133) [.ptr 0 0 0] (.live 19 false false [(rc s d hr (.slr 1 1 0 G.length) own fuel (.slr 1 2 0 L.length) .nils (.slr 1 3 0 W.length) (.slr 1 4 0 A.length) .nils .nils)]::tl)=some (.ret (.agg x.cells),.live 19 false false [(rc s d hr (.slr 1 1 0 G.length) own fuel (.slr 1 2 0 L.length) .nils (.slr 1 3 0 W.length) (.slr 1 4 0 A.length) .nils .nils)]::tl++[.live 4 true true [x.cells]]):=fun tl=>h_hour (b:=0) rfl h0 hx
 have q1:(if sumF (A.map posI) 0<x.flowIn then sumF (A.map posI) 0 else x.flowIn)=flowI A x:=by unfold flowI min2;split<;>(first|rfl|(split<;>omega)|omega)
 have q2:(if sumF (A.map negI) 0<x.flowOut then sumF (A.map negI) 0 else x.flowOut)=flowO A x:=by unfold flowO min2;split<;>(first|rfl|(split<;>omega)|omega)
 refine stOf rfl Tryz.func108 rfl rfl ?_
 simp only[Tryz.f108]
 (have hb:=trivial;with_reducible repeat' (first|simp only[hb,Vb.down,seval,TY108.down,List.length_map,hh,BHour.cells,g1,g2,g3,q1,q2,g4,g5,g6,k2,k3,t1,t2,t3,t4,t5,h39]|refine fsp ?_ ?_<;>intro hb|refine fd ?_|fail))
 rfl
theorem h_flowsB{s:BStore}{d:BDay}{w w1 w2 w3 w4 w5 w6:Bool}{hr own fuel:Int}{G L W A R:List Int}{O:List BTrade}{x:BHour}(hl:A.length≤1000)(hne:A≠[])(h0:0≤hr)(hx:d.hours[hr.toNat]?=some x):
 ClQ om' 108 [.ptr 0 0 0] [.live 19 false w [(rc s d hr (.slr 1 1 0 G.length) own fuel (.slr 1 2 0 L.length) (.slr 5 3 0 O.length) (.slr 1 4 0 W.length) (.slr 1 5 0 A.length) .nils .nils)],.live 1 true w1 (G.map iv),.live 1 true w2 (L.map iv),.live 5 true w3 (O.map BTrade.cells),.live 1 true w4 (W.map iv),.live 1 true w6 (A.map iv)]
  fun o h'=>o=.ret (.tup [])∧h'=[.live 19 false true [(rc s d hr (.slr 1 1 0 G.length) ((ownL A x own)) fuel (.slr 1 2 0 L.length) (.slr 5 3 0 O.length) (.slr 1 4 0 W.length) (.slr 1 5 0 A.length) (.slr 1 6 0 A.length) .nils)],.live 1 true w1 (G.map iv),.live 1 true w2 (L.map iv),.live 5 true w3 (O.map BTrade.cells),.live 1 true w4 (W.map iv),.live 1 true w6 (A.map iv),.live 1 true false ((flowsL A x).map iv)]:=by
 have g1:=e_sides (l:=A) (nn:=true) hl hne
 rw[slv_true]at g1
 have g2:=e_sum (l:=A.map posI) (nn:=true) (by simp[maxLen];omega)
 have g3:=e_sum (l:=A.map negI) (nn:=true) (by simp[maxLen];omega)
 rw[slv_true]at g2 g3
 have m1:∀l:List Int,l.map (fun x=>x)=l:=fun l=>by simp
 have g4:=e_shareC (amount:=flowI A x) (l:=A.map posI) (nn:=true) (g:=134) (w:=fun x=>x) (fun x _=>e_flows1 x) (by simpa using hl)
 have g5:=e_shareC (amount:=flowO A x) (l:=A.map negI) (nn:=true) (g:=134) (w:=fun x=>x) (fun x _=>e_flows1 x) (by simpa using hl)
 rw[m1,slv_true,List.length_map,List.nil_append]at g4 g5
 have k2:(shareL (flowI A x) (A.map posI)).length=A.length:=by unfold shareL;rw[shareF_len];simp
 have k3:(shareL (flowO A x) (A.map negI)).length=A.length:=by unfold shareL;rw[shareF_len];simp
 have k1:shareL (flowI A x) (A.map posI)≠[]:=fun e=>hne (List.length_eq_zero_iff.1 (by rw[←k2,e];rfl))
 have g6:=e_joined' (shareL (flowI A x) (A.map posI)) (shareL (flowO A x) (A.map negI)) true true (by omega) (by omega) _ _ (fun e=>(k1 e).elim) (fun _=>rfl)
 rw[slv_true,slv_true,k2]at g6
 have htk:∀l:List Int,l.length=A.length→(l.map iv).take A.length=l.map iv:=fun l h=>List.take_of_length_le (by simp[h])
 have t1:=htk A rfl
 have t2:=htk (A.map posI) (by simp)
 have t3:=htk (A.map negI) (by simp)
 have t4:=htk _ k2
 have t5:=htk _ k3
 unfold shareL at t4 t5 g6 k2 k3
 have h39:(A.length≤549755813888)=True:=eq_true (by omega)
 have hh:∀tl:Heap,om'.call (.sh 133) [.ptr 0 0 0] (.live 19 false false [(rc s d hr (.slr 1 1 0 G.length) own fuel (.slr 1 2 0 L.length) (.slr 5 3 0 O.length) (.slr 1 4 0 W.length) (.slr 1 5 0 A.length) .nils .nils)]::tl)=some (.ret (.agg x.cells),.live 19 false false [(rc s d hr (.slr 1 1 0 G.length) own fuel (.slr 1 2 0 L.length) (.slr 5 3 0 O.length) (.slr 1 4 0 W.length) (.slr 1 5 0 A.length) .nils .nils)]::tl++[.live 4 true true [x.cells]]):=fun tl=>h_hour (b:=0) rfl h0 hx
 have q1:(if sumF (A.map posI) 0<x.flowIn then sumF (A.map posI) 0 else x.flowIn)=flowI A x:=by unfold flowI min2;split<;>(first|rfl|(split<;>omega)|omega)
 have q2:(if sumF (A.map negI) 0<x.flowOut then sumF (A.map negI) 0 else x.flowOut)=flowO A x:=by unfold flowO min2;split<;>(first|rfl|(split<;>omega)|omega)
 refine stOf rfl Tryz.func108 rfl rfl ?_
 simp only[Tryz.f108]
 (have hb:=trivial;with_reducible repeat' (first|simp only[hb,Vb.down,seval,TY108.down,List.length_map,hh,BHour.cells,g1,g2,g3,q1,q2,g4,g5,g6,k2,k3,t1,t2,t3,t4,t5,h39]|refine fsp ?_ ?_<;>intro hb|refine fd ?_|fail))
 rfl
theorem h_flowsC{s:BStore}{d:BDay}{w w1 w2 w3 w4 w5 w6:Bool}{hr own fuel:Int}{G L W A R:List Int}{O:List BTrade}{x:BHour}(hl:A.length≤1000)(hne:A≠[])(h0:0≤hr)(hx:d.hours[hr.toNat]?=some x):
 ClQ om' 108 [.ptr 0 0 0] [.live 19 false w [(rc s d hr (.slr 1 1 0 G.length) own fuel (.slr 1 2 0 L.length) .nils (.slr 1 3 0 W.length) (.slr 1 4 0 A.length) .nils (.slr 1 5 0 R.length))],.live 1 true w1 (G.map iv),.live 1 true w2 (L.map iv),.live 1 true w4 (W.map iv),.live 1 true w6 (A.map iv),.live 1 true w5 (R.map iv)]
  fun o h'=>o=.ret (.tup [])∧h'=[.live 19 false true [(rc s d hr (.slr 1 1 0 G.length) ((ownL A x own)) fuel (.slr 1 2 0 L.length) .nils (.slr 1 3 0 W.length) (.slr 1 4 0 A.length) (.slr 1 6 0 A.length) (.slr 1 5 0 R.length))],.live 1 true w1 (G.map iv),.live 1 true w2 (L.map iv),.live 1 true w4 (W.map iv),.live 1 true w6 (A.map iv),.live 1 true w5 (R.map iv),.live 1 true false ((flowsL A x).map iv)]:=by
 have g1:=e_sides (l:=A) (nn:=true) hl hne
 rw[slv_true]at g1
 have g2:=e_sum (l:=A.map posI) (nn:=true) (by simp[maxLen];omega)
 have g3:=e_sum (l:=A.map negI) (nn:=true) (by simp[maxLen];omega)
 rw[slv_true]at g2 g3
 have m1:∀l:List Int,l.map (fun x=>x)=l:=fun l=>by simp
 have g4:=e_shareC (amount:=flowI A x) (l:=A.map posI) (nn:=true) (g:=134) (w:=fun x=>x) (fun x _=>e_flows1 x) (by simpa using hl)
 have g5:=e_shareC (amount:=flowO A x) (l:=A.map negI) (nn:=true) (g:=134) (w:=fun x=>x) (fun x _=>e_flows1 x) (by simpa using hl)
 rw[m1,slv_true,List.length_map,List.nil_append]at g4 g5
 have k2:(shareL (flowI A x) (A.map posI)).length=A.length:=by unfold shareL;rw[shareF_len];simp
 have k3:(shareL (flowO A x) (A.map negI)).length=A.length:=by unfold shareL;rw[shareF_len];simp
 have k1:shareL (flowI A x) (A.map posI)≠[]:=fun e=>hne (List.length_eq_zero_iff.1 (by rw[←k2,e];rfl))
 have g6:=e_joined' (shareL (flowI A x) (A.map posI)) (shareL (flowO A x) (A.map negI)) true true (by omega) (by omega) _ _ (fun e=>(k1 e).elim) (fun _=>rfl)
 rw[slv_true,slv_true,k2]at g6
 have htk:∀l:List Int,l.length=A.length→(l.map iv).take A.length=l.map iv:=fun l h=>List.take_of_length_le (by simp[h])
 have t1:=htk A rfl
 have t2:=htk (A.map posI) (by simp)
 have t3:=htk (A.map negI) (by simp)
 have t4:=htk _ k2
 have t5:=htk _ k3
 unfold shareL at t4 t5 g6 k2 k3
 have h39:(A.length≤549755813888)=True:=eq_true (by omega)
 have hh:∀tl:Heap,om'.call (.sh 133) [.ptr 0 0 0] (.live 19 false false [(rc s d hr (.slr 1 1 0 G.length) own fuel (.slr 1 2 0 L.length) .nils (.slr 1 3 0 W.length) (.slr 1 4 0 A.length) .nils (.slr 1 5 0 R.length))]::tl)=some (.ret (.agg x.cells),.live 19 false false [(rc s d hr (.slr 1 1 0 G.length) own fuel (.slr 1 2 0 L.length) .nils (.slr 1 3 0 W.length) (.slr 1 4 0 A.length) .nils (.slr 1 5 0 R.length))]::tl++[.live 4 true true [x.cells]]):=fun tl=>h_hour (b:=0) rfl h0 hx
 have q1:(if sumF (A.map posI) 0<x.flowIn then sumF (A.map posI) 0 else x.flowIn)=flowI A x:=by unfold flowI min2;split<;>(first|rfl|(split<;>omega)|omega)
 have q2:(if sumF (A.map negI) 0<x.flowOut then sumF (A.map negI) 0 else x.flowOut)=flowO A x:=by unfold flowO min2;split<;>(first|rfl|(split<;>omega)|omega)
 refine stOf rfl Tryz.func108 rfl rfl ?_
 simp only[Tryz.f108]
 (have hb:=trivial;with_reducible repeat' (first|simp only[hb,Vb.down,seval,TY108.down,List.length_map,hh,BHour.cells,g1,g2,g3,q1,q2,g4,g5,g6,k2,k3,t1,t2,t3,t4,t5,h39]|refine fsp ?_ ?_<;>intro hb|refine fd ?_|fail))
 rfl
theorem h_flowsD{s:BStore}{d:BDay}{w w1 w2 w3 w4 w5 w6:Bool}{hr own fuel:Int}{G L W A R:List Int}{O:List BTrade}{x:BHour}(hl:A.length≤1000)(hne:A≠[])(h0:0≤hr)(hx:d.hours[hr.toNat]?=some x):
 ClQ om' 108 [.ptr 0 0 0] [.live 19 false w [(rc s d hr (.slr 1 1 0 G.length) own fuel (.slr 1 2 0 L.length) (.slr 5 3 0 O.length) (.slr 1 4 0 W.length) (.slr 1 5 0 A.length) .nils (.slr 1 6 0 R.length))],.live 1 true w1 (G.map iv),.live 1 true w2 (L.map iv),.live 5 true w3 (O.map BTrade.cells),.live 1 true w4 (W.map iv),.live 1 true w6 (A.map iv),.live 1 true w5 (R.map iv)]
  fun o h'=>o=.ret (.tup [])∧h'=[.live 19 false true [(rc s d hr (.slr 1 1 0 G.length) ((ownL A x own)) fuel (.slr 1 2 0 L.length) (.slr 5 3 0 O.length) (.slr 1 4 0 W.length) (.slr 1 5 0 A.length) (.slr 1 7 0 A.length) (.slr 1 6 0 R.length))],.live 1 true w1 (G.map iv),.live 1 true w2 (L.map iv),.live 5 true w3 (O.map BTrade.cells),.live 1 true w4 (W.map iv),.live 1 true w6 (A.map iv),.live 1 true w5 (R.map iv),.live 1 true false ((flowsL A x).map iv)]:=by
 have g1:=e_sides (l:=A) (nn:=true) hl hne
 rw[slv_true]at g1
 have g2:=e_sum (l:=A.map posI) (nn:=true) (by simp[maxLen];omega)
 have g3:=e_sum (l:=A.map negI) (nn:=true) (by simp[maxLen];omega)
 rw[slv_true]at g2 g3
 have m1:∀l:List Int,l.map (fun x=>x)=l:=fun l=>by simp
 have g4:=e_shareC (amount:=flowI A x) (l:=A.map posI) (nn:=true) (g:=134) (w:=fun x=>x) (fun x _=>e_flows1 x) (by simpa using hl)
 have g5:=e_shareC (amount:=flowO A x) (l:=A.map negI) (nn:=true) (g:=134) (w:=fun x=>x) (fun x _=>e_flows1 x) (by simpa using hl)
 rw[m1,slv_true,List.length_map,List.nil_append]at g4 g5
 have k2:(shareL (flowI A x) (A.map posI)).length=A.length:=by unfold shareL;rw[shareF_len];simp
 have k3:(shareL (flowO A x) (A.map negI)).length=A.length:=by unfold shareL;rw[shareF_len];simp
 have k1:shareL (flowI A x) (A.map posI)≠[]:=fun e=>hne (List.length_eq_zero_iff.1 (by rw[←k2,e];rfl))
 have g6:=e_joined' (shareL (flowI A x) (A.map posI)) (shareL (flowO A x) (A.map negI)) true true (by omega) (by omega) _ _ (fun e=>(k1 e).elim) (fun _=>rfl)
 rw[slv_true,slv_true,k2]at g6
 have htk:∀l:List Int,l.length=A.length→(l.map iv).take A.length=l.map iv:=fun l h=>List.take_of_length_le (by simp[h])
 have t1:=htk A rfl
 have t2:=htk (A.map posI) (by simp)
 have t3:=htk (A.map negI) (by simp)
 have t4:=htk _ k2
 have t5:=htk _ k3
 unfold shareL at t4 t5 g6 k2 k3
 have h39:(A.length≤549755813888)=True:=eq_true (by omega)
 have hh:∀tl:Heap,om'.call (.sh 133) [.ptr 0 0 0] (.live 19 false false [(rc s d hr (.slr 1 1 0 G.length) own fuel (.slr 1 2 0 L.length) (.slr 5 3 0 O.length) (.slr 1 4 0 W.length) (.slr 1 5 0 A.length) .nils (.slr 1 6 0 R.length))]::tl)=some (.ret (.agg x.cells),.live 19 false false [(rc s d hr (.slr 1 1 0 G.length) own fuel (.slr 1 2 0 L.length) (.slr 5 3 0 O.length) (.slr 1 4 0 W.length) (.slr 1 5 0 A.length) .nils (.slr 1 6 0 R.length))]::tl++[.live 4 true true [x.cells]]):=fun tl=>h_hour (b:=0) rfl h0 hx
 have q1:(if sumF (A.map posI) 0<x.flowIn then sumF (A.map posI) 0 else x.flowIn)=flowI A x:=by unfold flowI min2;split<;>(first|rfl|(split<;>omega)|omega)
 have q2:(if sumF (A.map negI) 0<x.flowOut then sumF (A.map negI) 0 else x.flowOut)=flowO A x:=by unfold flowO min2;split<;>(first|rfl|(split<;>omega)|omega)
 refine stOf rfl Tryz.func108 rfl rfl ?_
 simp only[Tryz.f108]
 (have hb:=trivial;with_reducible repeat' (first|simp only[hb,Vb.down,seval,TY108.down,List.length_map,hh,BHour.cells,g1,g2,g3,q1,q2,g4,g5,g6,k2,k3,t1,t2,t3,t4,t5,h39]|refine fsp ?_ ?_<;>intro hb|refine fd ?_|fail))
 rfl
end Go.Proofs.YtdbiogihimdpcaaGreatDoor
