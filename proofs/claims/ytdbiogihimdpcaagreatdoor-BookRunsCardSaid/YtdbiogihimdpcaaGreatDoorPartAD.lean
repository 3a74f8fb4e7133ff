/- The functions of the layer, walked. -/
import Derived.Test.YtdbiogihimdpcaaGreatDoorPartAC
import Derived.Test.YtdbiogihimdpcaaGreatDoorLibD
open List renaming length_map→aaS,take_of_length_le→aa0,map_eq_nil_iff→abO,map_nil→abT,length_nil→abY,mem_of_getElem?→acF,getElem?_eq_getElem→acK,getElem?_eq_some_iff→aeH,length_set→aeM,length_eq_zero_iff→aeZ,getElem?_set_ne→ae7,cons_append→ae8,append_assoc→afM,nil_append→af4,length_cons→ai5,length_append→akJ
open Bool renaming not_false→aaW,not_true→aa6,or_eq_false_iff→alC
open Nat renaming add_zero→abB,add_sub_cancel→aeW,le_succ_of_le→ae6
open Int renaming lt_irrefl→ab9,natCast_zero→aeP
open Option renaming map_some→acZ,getD_some→adV
set_option linter.unusedSimpArgs false
set_option linter.unusedVariables false
namespace Go.Proofs.YtdbiogihimdpcaaGreatDoor
open Go.Ev Go
set_option maxRecDepth 100000
set_option maxHeartbeats 16000000
def Eu(g:List Ag→List Int→Int→List Int)(cs:List Ag)(l:List Int)(most least:Int):List Int:=List.zipWith Ti (g cs (l.map Bm) most) (g cs (l.map Bz) least)
theorem Qx{α β:Type}{f:α→β}{l:List α}(h:l≠[]):l.map f≠[]:=by simpa using h
theorem jW{s:Ac}{l:List Int}{nn:Bool}{most least:Int}(hcl:l.length=s.cons.length)(hl:l.length≤1000)(hne:l≠[]):Bi.call (.fn 53) [.agg s.cells,Ao 1 true nn (l.map iv),.int .i64 most,.int .i64 least] []=
 some (.ret (.slr 1 0 0 l.length),[.live 1 true false ((Eu Hg s.cons l most least).map iv)]):=by
 have h1:=dU (nn:=nn) hl hne
 have h2:=oY (s:=s) (l:=l.map Bm) (nn:=true) (most:=most) (by simpa using hcl) (by simpa using hl) (Qx hne)
 have h3:=oY (s:=s) (l:=l.map Bz) (nn:=true) (most:=least) (by simpa using hcl) (by simpa using hl) (Qx hne)
 have k2:=Xa (cs:=s.cons) (l:=l.map Bm) (by simpa using hcl) most
 have k3:=Xa (cs:=s.cons) (l:=l.map Bz) (by simpa using hcl) least
 rw[aaS]at k2 k3 h2 h3
 have hgl:(List.zipWith Ti (Hg s.cons (l.map Bm) most) (Hg s.cons (l.map Bz) least)).length=l.length:=by simp[k2,k3]
 have hgn:Hg s.cons (l.map Bm) most≠[]:=fun e=>hne (aeZ.1 (by rw[←k2,e];rfl))
 have h4:=Qu (Hg s.cons (l.map Bm) most) (Hg s.cons (l.map Bz) least) true true (by omega) (by omega) _ _ (fun e=>(hgn e).elim) (fun _=>rfl)
 rw[An]at h2 h3
 rw[An,An,k2]at h4
 have t1:((l.map Bm).map iv).take l.length=(l.map Bm).map iv:=aa0 (by simp)
 have t2:((l.map Bz).map iv).take l.length=(l.map Bz).map iv:=aa0 (by simp)
 have t3:((Hg s.cons (l.map Bm) most).map iv).take l.length=(Hg s.cons (l.map Bm) most).map iv:=aa0 (by simp[k2])
 have t4:((Hg s.cons (l.map Bz) least).map iv).take l.length=(Hg s.cons (l.map Bz) least).map iv:=aa0 (by simp[k3])
 (refine ce Tryz.func53 ?_;simp only[Tryz.f53];(have hb:=trivial;with_reducible repeat' (first|simp only[hb,Va.down,seval,av1.down,h1,h2,h3,h4,k2,k3,t1,t2,t3,t4]|refine Af ?_ ?_<;>intro hb|refine fdl ?_|fail)))
 all_goals rfl
theorem uD{s:Ac}{nn:Bool}{most least:Int}(hm:0≤most)(hm':0≤least):Bi.call (.fn 53) [.agg s.cells,Ao 1 true nn [],.int .i64 most,.int .i64 least] []=some (.ret .nils,[]):=by
 have g:∀m:Int,0≤m→Bi.call (.fn 96) [.agg s.cells,.nils,.int .i64 m] []=some (.ret .nils,[]):=fun m hm=>by
  have hsum:=Zz (l:=[]) (nn:=false) (by simp)
  rw[abT,Gi]at hsum
  have hcl:Bi.call (.fn 102) [.nils] []=some (.ret .nils,[]):=by
   (refine ce Tryz.func102 ?_;simp only[Tryz.f102];(have hb:=trivial;with_reducible repeat' (first|simp only[hb,Va.down,seval,aaJ.down]|refine Af ?_ ?_<;>intro hb|refine fd ?_|fail)))
  have hb:decide (Ar [] 0≤m)=true:=decide_eq_true (by simpa [Ar]using hm)
  (refine ce Tryz.func96 ?_;simp only[Tryz.f96];(with_reducible repeat' (first|simp only[hb,Va.down,seval,jR.down,hsum,hcl,hb]|refine Af ?_ ?_<;>intro hb|refine fd ?_|fail)))
 have h1:=iE (nn:=nn)
 have h2:=g most hm
 have h3:=g least hm'
 have h4:=Qu [] [] false false (by simp) (by simp) _ _ (fun _=>rfl) (fun e=>(e rfl).elim)
 rw[abT,Gi]at h4
 (refine ce Tryz.func53 ?_;simp only[Tryz.f53];(have hb:=trivial;with_reducible repeat' (first|simp only[hb,Va.down,seval,av1.down,h1,h2,h3,h4]|refine Af ?_ ?_<;>intro hb|refine fd ?_|fail)))
def yC(l:List Int):Bool:=l.all fun x=>Hw x (-100000000) 100000000
theorem ap6{l:List Int}(nn:Bool)(hl:l.length≤1000)(hne:l≠[]):Bi.call (.fn 59) [Ao 1 true nn (l.map iv)] []=some (.ret (.slr 1 0 0 l.length),[.live 1 true false ((l.map Bm).map iv)]):=af1 l nn hl _ _ (fun e=>(hne e).elim) (fun _=>rfl)
theorem ahK{l:List Int}(nn:Bool)(hl:l.length≤1000)(hne:l≠[]):Bi.call (.fn 60) [Ao 1 true nn (l.map iv)] []=some (.ret (.slr 1 0 0 l.length),[.live 1 true false ((l.map Bz).map iv)]):=zO l nn hl _ _ (fun e=>(hne e).elim) (fun _=>rfl)
theorem aqB{l:List Int}(h:l≠[]):hasImm 8 (.imm 1 true (l.map iv))=true:=by
 cases l with
 |nil=>exact(h rfl).elim
 |cons x l=>rfl
theorem ao4{s:Ac}{l:List Int}{nn:Bool}{most least:Int}(hcl:l.length=s.cons.length)(hl:l.length≤1000)(hne:l≠[]):Bi.call (.fn 21) [.agg s.cells,Ao 1 true nn (l.map iv),.int .i64 most,.int .i64 least] []=
 some (.ret (.slr 1 0 0 l.length),[.live 1 true false ((Eu Gk s.cons l most least).map iv)]):=by
 have h1:=ap6 nn hl hne
 have h2:=ahK nn hl hne
 have k2:=Nu (cs:=s.cons) (l:=l.map Bm) (by simpa using hcl) most
 have k3:=Nu (cs:=s.cons) (l:=l.map Bz) (by simpa using hcl) least
 rw[aaS]at k2 k3
 have hgn:Gk s.cons (l.map Bm) most≠[]:=fun e=>hne (aeZ.1 (by rw[←k2,e];rfl))
 have h4:=kO (Gk s.cons (l.map Bm) most) (Gk s.cons (l.map Bz) least) true true (by omega) (by omega) _ _ (fun e=>(hgn e).elim) (fun _=>rfl)
 rw[An,An,k2]at h4
 have t1:((l.map Bm).map iv).take l.length=(l.map Bm).map iv:=aa0 (by simp)
 have t2:((l.map Bz).map iv).take l.length=(l.map Bz).map iv:=aa0 (by simp)
 have t3:((Gk s.cons (l.map Bm) most).map iv).take l.length=(Gk s.cons (l.map Bm) most).map iv:=aa0 (by simp[k2])
 have t4:((Gk s.cons (l.map Bz) least).map iv).take l.length=(Gk s.cons (l.map Bz) least).map iv:=aa0 (by simp[k3])
 have i1:=aqB (Qx (f:=Bm) hne)
 have i2:=aqB (Qx (f:=Bz) hne)
 have hpl:(l.map Bm).length≤maxLen:=by simp[maxLen];omega
 have hnl:(l.map Bz).length≤maxLen:=by simp[maxLen];omega
 by_cases q1:Ar (l.map Bm) 0≤most
 ·have g1:=eX (s:=s) (nn:=true) hpl q1
  have e1:Gk s.cons (l.map Bm) most=l.map Bm:=by simp[Gk,q1]
  rw[An]at g1
  rw[e1]at h4
  by_cases q2:Ar (l.map Bz) 0≤least
  ·have g2:=eX (s:=s) (nn:=true) hnl q2
   have e2:Gk s.cons (l.map Bz) least=l.map Bz:=by simp[Gk,q2]
   rw[An]at g2
   rw[e2]at h4
   (refine ce Tryz.func21 ?_;simp only[Tryz.f21];(have hb:=trivial;with_reducible repeat' (first|simp only[hb,Va.down,seval,af7.down,h1,h2,h4,g1,g2,k2,k3,t1,t2,t3,t4,i1,i2]|refine Af ?_ ?_<;>intro hb|refine fdl ?_|fail)))
   all_goals (unfold Eu;rw[e1,e2])
  ·obtain⟨w2,g2⟩:=mV (s:=s) (nn:=true) (l:=l.map Bz) (by simpa using hcl) (by simpa using hl) (Qx hne) q2
   rw[An,aaS]at g2
   (refine ce Tryz.func21 ?_;simp only[Tryz.f21];(have hb:=trivial;with_reducible repeat' (first|simp only[hb,Va.down,seval,af7.down,h1,h2,h4,g1,g2,k2,k3,t1,t2,t3,t4,i1,i2]|refine Af ?_ ?_<;>intro hb|refine fdl ?_|fail)))
   all_goals (unfold Eu;rw[e1])
 ·obtain⟨w1,g1⟩:=mV (s:=s) (nn:=true) (l:=l.map Bm) (by simpa using hcl) (by simpa using hl) (Qx hne) q1
  rw[An,aaS]at g1
  by_cases q2:Ar (l.map Bz) 0≤least
  ·have g2:=eX (s:=s) (nn:=true) hnl q2
   have e2:Gk s.cons (l.map Bz) least=l.map Bz:=by simp[Gk,q2]
   rw[An]at g2
   rw[e2]at h4
   (refine ce Tryz.func21 ?_;simp only[Tryz.f21];(have hb:=trivial;with_reducible repeat' (first|simp only[hb,Va.down,seval,af7.down,h1,h2,h4,g1,g2,k2,k3,t1,t2,t3,t4,i1,i2]|refine Af ?_ ?_<;>intro hb|refine fdl ?_|fail)))
   all_goals (unfold Eu;rw[e2])
  ·obtain⟨w2,g2⟩:=mV (s:=s) (nn:=true) (l:=l.map Bz) (by simpa using hcl) (by simpa using hl) (Qx hne) q2
   rw[An,aaS]at g2
   (refine ce Tryz.func21 ?_;simp only[Tryz.f21];(have hb:=trivial;with_reducible repeat' (first|simp only[hb,Va.down,seval,af7.down,h1,h2,h4,g1,g2,k2,k3,t1,t2,t3,t4,i1,i2]|refine Af ?_ ?_<;>intro hb|refine fdl ?_|fail)))
   all_goals rfl
theorem tN{s:Ac}{nn:Bool}{most least:Int}(hm:0≤most)(hm':0≤least):Bi.call (.fn 21) [.agg s.cells,Ao 1 true nn [],.int .i64 most,.int .i64 least] []=some (.ret .nils,[]):=by
 have g:∀m:Int,0≤m→Bi.call (.fn 58) [.agg s.cells,.nils,.int .i64 m] []=some (.ret .nils,[]):=fun m hm=>by
  have:=eX (s:=s) (l:=[]) (nn:=false) (most:=m) (by simp) (by simpa [Ar]using hm)
  rwa[abT,Gi]at this
 have h1:=af1 [] nn (by simp) _ _ (fun _=>rfl) (fun e=>(e rfl).elim)
 have h2:=zO [] nn (by simp) _ _ (fun _=>rfl) (fun e=>(e rfl).elim)
 have h3:=g most hm
 have h3':=g least hm'
 have h4:=kO [] [] false false (by simp) (by simp) _ _ (fun _=>rfl) (fun e=>(e rfl).elim)
 rw[abT]at h1 h2
 rw[abT,Gi]at h4
 (refine ce Tryz.func21 ?_;simp only[Tryz.f21];(have hb:=trivial;with_reducible repeat' (first|simp only[hb,Va.down,seval,af7.down,h1,h2,h3,h3',h4]|refine Af ?_ ?_<;>intro hb|refine fd ?_|fail)))
theorem tI{s:Ac}(h:Es s=true):s.cons.length≤8:=by
 simp only[Es,Bool.and_eq_true,decide_eq_true_eq]at h
 omega
theorem Ek(k:Nat)(v:AV)(g l:Ab)(j:Nat):(kl k v g++l)[g.length+j]?=l[j]?:=by rw[←Bt k v g];exact Jf _ _ _
theorem Do.cell{k st:Nat}{fl:Bool}{rows:List (List AV)}{v:AV}{g:Ab}(h:Do k st fl rows v g):AV.isCell v=true:=by
 rcases h with⟨_,rfl⟩|⟨b,w,rfl,_⟩<;>rfl
theorem Do.acells{k st:Nat}{fl:Bool}{rows:List (List AV)}{v:AV}{g:Ab}(h:Do k st fl rows v g):acells v=[v]:=by
 rcases h with⟨_,rfl⟩|⟨b,w,rfl,_⟩<;>rfl
structure Aa where
 hour:Int
 back:Int
 frm:Int
 to:Int
 amount:Int
def Aa.cells(t:Aa):List AV:=[.int .i64 t.hour,.int .i64 t.back,.int .i64 t.frm,.int .i64 t.to,.int .i64 t.amount]
structure Bc where
 inn:Int
 out:Int
 flowIn:Int
 flowOut:Int
def Bc.cells(h:Bc):List AV:=[.int .i64 h.inn,.int .i64 h.out,.int .i64 h.flowIn,.int .i64 h.flowOut]
structure Ap where
 nh:Bool
 hours:List Bc
 nn:Bool
 noms:List Gj
 nt:Bool
 trades:List Aa
abbrev Ap.cells(d:Ap):List AV:=[Ao 4 true d.nh (d.hours.map Bc.cells),Ao 4 true d.nn (d.noms.map Gj.cells),Ao 5 true d.nt (d.trades.map Aa.cells)]
abbrev rc(s:Ac)(d:Ap)(hr:Int)(gv:AV)(own fuel:Int)(lv ov wv av fv rv:AV):List AV:=[.int .i64 s.space,.int .i64 s.inn,.int .i64 s.out,.int .i64 s.lead,.int .i64 s.fuel,Ao 11 false s.nn (s.cons.map Ag.cells),Ao 4 true d.nh (d.hours.map Bc.cells),Ao 4 true d.nn (d.noms.map Gj.cells),Ao 5 true d.nt (d.trades.map Aa.cells),.int .i64 hr,gv,.int .i64 own,.int .i64 fuel,lv,ov,wv,av,fv,rv]
def gI(l:List Int)(i:Int):Int:=(l[i.toNat]?).getD 0
def sI(l:List Int)(i v:Int):List Int:=l.set i.toNat v
def inL(n:Nat)(i:Int):Prop:=0≤i∧i<n
theorem inL.toNat{n:Nat}{i:Int}(h:inL n i):i.toNat<n:=by unfold inL at h;omega
theorem Bg(l:List Int)(i v:Int):(sI l i v).length=l.length:=by simp[sI]
theorem Ff{l:List Int}{i:Int}(h:i.toNat<l.length):l[i.toNat]?=some (gI l i):=by
 simp[gI,h]
theorem Dt(l:List Int)(i v:Int):(l.map iv).set i.toNat [.int .i64 v]=(sI l i v).map iv:=by
 simp[sI,iv,List.map_set]
theorem dG{s:Ac}{d:Ap}{fl w:Bool}{h:Ab}{b bg:Nat}{hr own fuel i:Int}{lv ov wv av fv rv:AV}{G:List Int}{n:Nat}{fl2 w2:Bool}{c:Ag}(hn:G.length=n)
 (hB:h[b]?=some (.live 19 fl w [(rc s d hr (.slr 1 bg 0 n) own fuel lv ov wv av fv rv)])) (hg:h[bg]?=some (.live 1 fl2 w2 (G.map iv))) (hi:inL n i) (hc:s.cons[i.toNat]?=some c):
 Bi.call (.sh 130) [.ptr b 0 0,.int .i64 i] h=some (.ret (.int .i64 (IntKind.i64.wrap (c.space-gI G i))),h):=by
 subst hn
 have h1:=Ff hi.toNat
 have h2:(0≤i)=True:=eq_true hi.1
 have h3:(i<(G.length:Int))=True:=eq_true hi.2
 (refine csh Tryz.func130 ?_;simp only[Tryz.f130];(have hb:=trivial;with_reducible repeat' (first|simp only[hb,Vb.down,seval,av3.down,hB,hg,h1,h2,h3,hc,iv,Ag.cells]|refine Af ?_ ?_<;>intro hb|refine fd ?_|fail)))
theorem Yp{s:Ac}{d:Ap}{fl w:Bool}{h:Ab}{b:Nat}{hr own fuel:Int}{gv lv ov wv av fv rv:AV}{x:Bc}
 (hB:h[b]?=some (.live 19 fl w [(rc s d hr gv own fuel lv ov wv av fv rv)])) (h2:0≤hr) (hx:d.hours[hr.toNat]?=some x):
 Bi.call (.sh 133) [.ptr b 0 0] h=some (.ret (.agg x.cells),h++[.live 4 true true [x.cells]]):=by
 have h2':(0≤hr)=True:=eq_true h2
 have hA:=Av hB
 (refine csh Tryz.func133 ?_;simp only[Tryz.f133];(have hb:=trivial;with_reducible repeat' (first|simp only[hb,Vb.down,seval,avS.down,hB,hA,h2',hx,Bc.cells]|refine Af ?_ ?_<;>intro hb|refine fd ?_|fail)))
theorem dH{g:Ab}(h:Bv g=true)(b:Nat):Bv (g.set b .dead)=true:=by
 simp only[Bv,List.all_eq_true]at h ⊢
 intro c hc
 rcases List.mem_or_eq_of_mem_set hc with h1|rfl
 ·exact h c h1
 ·rfl
def aX(cs:List Ag)(i:Int):Int:=((cs[i.toNat]?).map Ag.lack).getD 0
def Gw(cs:List Ag)(i:Int):Int:=((cs[i.toNat]?).map Ag.space).getD 0
def lC(cs:List Ag)(t:Aa)(G:List Int):Int:=IntKind.i64.wrap (IntKind.i64.wrap (t.amount-gI G t.to)*aX cs t.to)
def Wp(cs:List Ag)(t:Aa)(G L:List Int):List Int:=
 if 0<IntKind.i64.wrap (t.amount-gI G t.to)then
  sI (sI L t.to (IntKind.i64.wrap (gI L t.to+lC cs t G))) t.frm (IntKind.i64.wrap (gI (sI L t.to (IntKind.i64.wrap (gI L t.to+lC cs t G))) t.frm-lC cs t G))else L
def nB(cs:List Ag)(t:Aa)(G:List Int):Int:=
 min2 (min2 t.amount (gI G t.to)) (IntKind.i64.wrap (Gw cs t.frm-gI G t.frm))
def Vm(cs:List Ag)(t:Aa)(G:List Int):List Int:=
 sI (sI G t.to (IntKind.i64.wrap (gI G t.to-nB cs t G))) t.frm (IntKind.i64.wrap (gI (sI G t.to (IntKind.i64.wrap (gI G t.to-nB cs t G))) t.frm+nB cs t G))
def Dv(cs:List Ag)(hr:Int):List Aa→List Int × List Int × List Aa→List Int × List Int × List Aa
 | [],a=>a
 |t::rest,(G,L,p)=>if t.back=hr then Dv cs hr rest (Vm cs t G,Wp cs t G L,p)else Dv cs hr rest (G,L,p++[t])
def Aa.ok(n:Nat)(t:Aa):Prop:=inL n t.frm∧inL n t.to
theorem Ye(cs:List Ag)(t:Aa)(G:List Int):(Vm cs t G).length=G.length:=by simp[Vm,Bg]
theorem Qa(cs:List Ag)(t:Aa)(G L:List Int):(Wp cs t G L).length=L.length:=by unfold Wp;split<;>simp[Bg]
def sO(p:List Aa):AV:=if p=[]then .nils else .slr 5 4 0 p.length
def tG(p:List Aa):Ab:=if p=[]then []else [.live 5 true false (p.map Aa.cells)]
theorem amU{s:Ac}{d:Ap}{fl w w1 w2 w3:Bool}{hr own fuel:Int}{wv av fv rv:AV}{G L:List Int}{O:List Aa}(hG:G.length=s.cons.length)(hL:L.length=s.cons.length)(hOl:O.length≤1000)(ho:∀t∈O,t.ok s.cons.length)
 (hwv:wv=.nils) (hav:av=.nils) (hfv:fv=.nils) (hrv:rv=.nils):
 Ql Bi 104 [.ptr 0 0 0] [.live 19 fl w [(rc s d hr (.slr 1 1 0 G.length) own fuel (.slr 1 2 0 L.length) (.slr 5 3 0 O.length) wv av fv rv)],.live 1 true w1 (G.map iv),.live 1 true w2 (L.map iv),.live 5 true w3 (O.map Aa.cells)]
  fun o h'=>o=.ret (.tup [])∧∃w1' w2',∀G' L' p',(G',L',p')=Dv s.cons hr O (G,L,[])→
   (w1'=false→G'=G)∧(w2'=false→L'=L)∧h'=[.live 19 false true [(rc s d hr (.slr 1 1 0 G.length) own fuel (.slr 1 2 0 L.length) (sO p') wv av fv rv)],.live 1 true w1' (G'.map iv),.live 1 true w2' (L'.map iv),.live 5 true w3 (O.map Aa.cells)]++tG p':=by
 have hl':O.length≤maxLen:=by unfold maxLen;omega
 refine Je rfl Tryz.func104 rfl rfl ?_
 simp only[Tryz.f104]
 (have hb:=trivial;with_reducible repeat' (first|simp only[hb,Vb.down,seval,Zj.down]|refine Af ?_ ?_<;>intro hb|refine fd ?_|fail))
 refine Cd (Np 135 O (fun i (zz:List Int × List Int × List Aa) t h=>t 0=.ptr 0 0 0∧t 11=.slr 5 3 0 O.length∧t 12=.int .i64 O.length∧t 13=.int .i64 i∧(∃wG wL g,h=.live 19 fl w [(rc s d hr (.slr 1 1 0 G.length) own fuel (.slr 1 2 0 L.length) (.slr 5 3 0 O.length) wv av fv rv)]::.live 1 true wG (zz.1.map iv)::.live 1 true wL (zz.2.1.map iv)::.live 5 true w3 (O.map Aa.cells)::g∧Bv g=true∧(wG=false→zz.1=G)∧(wL=false→zz.2.1=L)∧zz.1.length=G.length∧zz.2.1.length=L.length∧zz.2.2.length≤i∧((zz.2.2=[]∧t 2=.nils)∨(zz.2.2≠[]∧∃b,t 2=.slr 5 (b+4) 0 zz.2.2.length∧g[b]?=some (.live 5 true false (zz.2.2.map Aa.cells)))))) (fun rest zz=>Dv s.cons hr rest (zz.1,zz.2.1,zz.2.2)) (fun r e t h=>e=.exit 0∧t 0=.ptr 0 0 0∧(∃wG wL g,h=.live 19 fl w [(rc s d hr (.slr 1 1 0 G.length) own fuel (.slr 1 2 0 L.length) (.slr 5 3 0 O.length) wv av fv rv)]::.live 1 true wG (r.1.map iv)::.live 1 true wL (r.2.1.map iv)::.live 5 true w3 (O.map Aa.cells)::g∧Bv g=true∧(wG=false→r.1=G)∧(wL=false→r.2.1=L)∧((r.2.2=[]∧t 2=.nils)∨(r.2.2≠[]∧∃b,t 2=.slr 5 (b+4) 0 r.2.2.length∧g[b]?=some (.live 5 true false (r.2.2.map Aa.cells)))))) ?_ ?_ (G,L,[]) _ _ ?_) (fun e t h hk=>?_)
 ·rintro⟨G',L',p⟩ t h Q' kQ ⟨h0,h11,h12,h13,⟨wG,wL,g,rfl,hqg,hwG,hwL,hG',hL',hpl,hp⟩⟩
  try dsimp only at *
  (have hb:=trivial;with_reducible repeat' (first|simp only[hb,Vb.down,seval,Zj.down,h0,h11,h12,h13,ab9,decide_false]|refine Af ?_ ?_<;>intro hb|refine fd ?_|fail))
  exact kQ _ _ _ ⟨rfl,by simp[up,h0],wG,wL,g,rfl,hqg,by simpa [Dv]using hwG,by simpa [Dv]using hwL,by simpa [up,Dv]using hp⟩
 ·rintro x rest i ⟨G',L',p⟩ t h J Q' kJ kQ hx hi ⟨h0,h11,h12,h13,⟨wG,wL,g,rfl,hqg,hwG,hwL,hG',hL',hpl,hp⟩⟩
  have hd:decide ((i:Int)<(O.length:Int))=true:=decide_eq_true (by omega)
  have hw:=Ai hi hl'
  try dsimp only at *
  obtain⟨⟨f0,f1⟩,k0,k1⟩:=ho x (acF hx)
  have hok:=ho x (acF hx)
  have e1:(0≤x.to)=True:=eq_true k0
  have e2:(x.to<(G.length:Int))=True:=eq_true (by omega)
  have e3:(x.to<(L.length:Int))=True:=eq_true (by omega)
  have e4:(0≤x.frm)=True:=eq_true f0
  have e5:(x.frm<(G.length:Int))=True:=eq_true (by omega)
  have e6:(x.frm<(L.length:Int))=True:=eq_true (by omega)
  have hii:((i:Int)<(O.length:Int))=True:=eq_true (by omega)
  obtain⟨ct,hct⟩:∃c,s.cons[x.to.toNat]?=some c:=⟨_,acK (by omega)⟩
  obtain⟨cf,hcf⟩:∃c,s.cons[x.frm.toNat]?=some c:=⟨_,acK (by omega)⟩
  have a1:G'[x.to.toNat]?=some (gI G' x.to):=Ff (by omega)
  have a2:L'[x.to.toNat]?=some (gI L' x.to):=Ff (by omega)
  have a3:G'[x.frm.toNat]?=some (gI G' x.frm):=Ff (by omega)
  have a4:L'[x.frm.toNat]?=some (gI L' x.frm):=Ff (by omega)
  have a5:∀v,(sI G' x.to v)[x.frm.toNat]?=some (gI (sI G' x.to v) x.frm):=fun v=>Ff (by rw[Bg];omega)
  have a6:∀v,(sI L' x.to v)[x.frm.toNat]?=some (gI (sI L' x.to v) x.frm):=fun v=>Ff (by rw[Bg];omega)
  have hroom:∀(L2:List Int) (tl:Ab),Bi.call (.sh 130) [.ptr 0 0 0,.int .i64 x.frm] (.live 19 fl false [(rc s d hr (.slr 1 1 0 G.length) own fuel (.slr 1 2 0 L.length) (.slr 5 3 0 O.length) wv av fv rv)]::.live 1 true false (G'.map iv)::.live 1 true false (L2.map iv)::.live 5 true false (O.map Aa.cells)::tl)=
   some (.ret (.int .i64 (IntKind.i64.wrap (cf.space-gI G' x.frm))),.live 19 fl false [(rc s d hr (.slr 1 1 0 G.length) own fuel (.slr 1 2 0 L.length) (.slr 5 3 0 O.length) wv av fv rv)]::.live 1 true false (G'.map iv)::.live 1 true false (L2.map iv)::.live 5 true false (O.map Aa.cells)::tl):=fun L2 tl=>
   dG (b:=0) (bg:=1) (n:=G.length) hG' rfl rfl ⟨f0,by omega⟩ hcf
  have hse:=fun i l l'=>aH hqg i l l'
  cases hbk:(x.back==hr)with
  |false=>
   have hbn:¬x.back=hr:=by simpa using hbk
   rcases hp with⟨rfl,h2⟩|⟨hpn,b,h2,hgb⟩
   ·(have hb:=trivial;with_reducible repeat' (first|simp only[hb,Vb.down,seval,Zj.down,h0,h11,h12,h13,h2,hd,hx,hw,hii,hbk,Aa.cells]|refine Af ?_ ?_<;>intro hb|refine fd ?_|fail))
    (refine Ah (kJ _ _ (G',L',[x]) ⟨?_,?_,?_,?_,⟨wG,wL,_,rfl,by rw[Ep,hqg];rfl,hwG,hwL,hG',hL',by simp<;>omega,.inr ⟨by simp,g.length+2,by simp[up],by rw[Jf];simp[Aa.cells]⟩⟩⟩ ?_);(simp[up,h0]);(simp[up,h11]);(simp[up,h12]);(simp[up]);(simp[Dv,hbn]))
   ·have hbl:b<g.length:=(aeH.1 hgb).1
    have hA:=Av hgb
    have hS:=Fa hbl
    have hi39:(p.length+1≤549755813888)=True:=eq_true (by have:=hpl;omega)
    (have hb:=trivial;with_reducible repeat' (first|simp only[hb,Vb.down,seval,Zj.down,h0,h11,h12,h13,h2,hd,hx,hw,hii,hbk,Aa.cells,hA,hS,Lr,Ge,aeM,aaS,hi39]|refine Af ?_ ?_<;>intro hb|refine fd ?_|fail))
    (refine Ah (kJ _ _ (G',L',p++[x]) ⟨?_,?_,?_,?_,⟨wG,wL,_,rfl,by rw[Ep,dH hqg b];rfl,hwG,hwL,hG',hL',by simp<;>omega,.inr ⟨by simp,g.length+2,by simp[up],by rw[Ge];simp[Aa.cells]⟩⟩⟩ ?_);(simp[up,h0]);(simp[up,h11]);(simp[up,h12]);(simp[up]);(simp[Dv,hbn]))
  |true=>
   have hbn:x.back=hr:=by simpa using hbk
   have hpg:∀{t':Tm},t' 2=t 2→((p=[]∧t' 2=.nils)∨(p≠[]∧∃b,t' 2=.slr 5 (b+4) 0 p.length∧(g++[.live 5 true true [x.cells]])[b]?=some (.live 5 true false (p.map Aa.cells)))):=fun {t'} e=>by
    rw[e]
    rcases hp with h|⟨h,b,h',h''⟩
    ·exact .inl h
    ·exact .inr ⟨h,b,h',Av h'' _⟩
   by_cases hlk:0<IntKind.i64.wrap (x.amount-gI G' x.to)
   ·have hlk':decide (0<IntKind.i64.wrap (x.amount-gI G' x.to))=true:=decide_eq_true hlk
    (have hb:=trivial;with_reducible repeat' (first|simp only[hb,Vb.down,seval,Zj.down,h0,h11,h12,h13,hd,hx,hw,hii,hbk,hlk',Aa.cells,Ag.cells,e1,e2,e3,e4,e5,e6,a1,a2,a3,a4,a5,a6,hct,hcf,hroom,hse,iv,Dt,Sr]|refine Af ?_ ?_<;>intro hb|refine fd ?_|fail))
    (refine Ah (kJ _ _ (Vm s.cons x G',Wp s.cons x G' L',p) ⟨?_,?_,?_,?_,⟨true,true,g++[.live 5 true true [x.cells]],by simp[Vm,nB,Wp,min2,Gw,aX,lC,hcf,hct,hlk,Aa.cells],by rw[Ep,hqg];rfl,(fun h=>by cases h),(fun h=>by cases h),by rw[Ye];exact hG',by rw[Qa];exact hL',ae6 hpl,hpg (by simp[up])⟩⟩ ?_);(simp[up,h0]);(simp[up,h11]);(simp[up,h12]);(simp[up]);(simp[Dv,hbn]))
   ·have hlk':decide (0<IntKind.i64.wrap (x.amount-gI G' x.to))=false:=decide_eq_false hlk
    (have hb:=trivial;with_reducible repeat' (first|simp only[hb,Vb.down,seval,Zj.down,h0,h11,h12,h13,hd,hx,hw,hii,hbk,hlk',Aa.cells,Ag.cells,e1,e2,e3,e4,e5,e6,a1,a2,a3,a4,a5,a6,hct,hcf,hroom,hse,iv,Dt]|refine Af ?_ ?_<;>intro hb|refine fd ?_|fail))
    (refine Ah (kJ _ _ (Vm s.cons x G',Wp s.cons x G' L',p) ⟨?_,?_,?_,?_,⟨true,wL,g++[.live 5 true true [x.cells]],by simp[Vm,nB,Wp,min2,Gw,aX,lC,hcf,hct,hlk,Aa.cells],by rw[Ep,hqg];rfl,(fun h=>by cases h),(by simpa [Wp,hlk]using hwL),by rw[Ye];exact hG',by rw[Qa];exact hL',ae6 hpl,hpg (by simp[up])⟩⟩ ?_);(simp[up,h0]);(simp[up,h11]);(simp[up,h12]);(simp[up]);(simp[Dv,hbn]))
 ·exact⟨by simp[up,Bw],by simp[up,Bw],by simp[up,Bw],by simp[up],⟨_,_,[],rfl,rfl,fun _=>rfl,fun _=>rfl,rfl,rfl,Nat.le_refl _,.inl ⟨rfl,by simp[up]⟩⟩⟩
 ·obtain⟨rfl,h0,wG,wL,g,rfl,hqg,hwG,hwL,hp⟩:=hk
  generalize hr0:Dv s.cons hr O (G,L,[])=r at *
  obtain⟨G',L',p⟩:=r
  dsimp only at *
  have hV:wv=.nils:=hwv
  subst hwv hav hfv hrv
  rcases hp with⟨hp,h2⟩|⟨hp,b,h2,hgb⟩
  ·(have hb:=trivial;with_reducible repeat' (first|simp only[hb,Vb.down,seval,Zj.down,h0,h2]|refine Af ?_ ?_<;>intro hb|refine fd ?_|fail))
   exact⟨wG,wL,fun _ _ _ e=>by cases e;exact⟨hwG,hwL,by simp[sO,tG,hp]⟩⟩
  ·(have hb:=trivial;with_reducible repeat' (first|simp only[hb,Vb.down,seval,Zj.down,h0,h2,hgb]|refine Af ?_ ?_<;>intro hb|refine fd ?_|fail))
   exact⟨wG,wL,fun _ _ _ e=>by cases e;exact⟨hwG,hwL,by simp[sO,tG,hp]⟩⟩
theorem ag2{s:Ac}{d:Ap}{fl w w1 w2:Bool}{hr own fuel:Int}{wv av fv rv:AV}{G L:List Int}(hwv:wv=.nils)(hav:av=.nils)(hfv:fv=.nils)(hrv:rv=.nils):
 Ql Bi 104 [.ptr 0 0 0] [.live 19 fl w [(rc s d hr (.slr 1 1 0 G.length) own fuel (.slr 1 2 0 L.length) .nils wv av fv rv)],.live 1 true w1 (G.map iv),.live 1 true w2 (L.map iv)]
  fun o h'=>o=.ret (.tup [])∧h'=[.live 19 false true [(rc s d hr (.slr 1 1 0 G.length) own fuel (.slr 1 2 0 L.length) .nils wv av fv rv)],.live 1 true w1 (G.map iv),.live 1 true w2 (L.map iv)]:=by
 subst hwv hav hfv hrv
 refine Je rfl Tryz.func104 rfl rfl ?_
 simp only[Tryz.f104]
 (have hb:=trivial;with_reducible repeat' (first|simp only[hb,Vb.down,seval,Zj.down]|refine Af ?_ ?_<;>intro hb|refine fd ?_|fail))
 refine Cd (Np 135 ([]:List Aa) (fun i (zz:Unit) t h=>t 0=.ptr 0 0 0∧t 2=.nils∧t 11=.nils∧t 12=.int .i64 0∧t 13=.int .i64 i∧h=[.live 19 fl w [(rc s d hr (.slr 1 1 0 G.length) own fuel (.slr 1 2 0 L.length) .nils .nils .nils .nils .nils)],.live 1 true w1 (G.map iv),.live 1 true w2 (L.map iv)]) (fun rest zz=>()) (fun r e t h=>e=.exit 0∧t 0=.ptr 0 0 0∧t 2=.nils∧h=[.live 19 fl w [(rc s d hr (.slr 1 1 0 G.length) own fuel (.slr 1 2 0 L.length) .nils .nils .nils .nils .nils)],.live 1 true w1 (G.map iv),.live 1 true w2 (L.map iv)]) ?_ ?_ () _ _ ?_) (fun e t h hk=>?_)
 ·rintro _ t h Q' kQ ⟨h0,h2,h11,h12,h13,rfl⟩
  (have hb:=trivial;with_reducible repeat' (first|simp only[hb,Vb.down,seval,Zj.down,h0,h2,h11,h12,h13,ab9,decide_false,abY,aeP]|refine Af ?_ ?_<;>intro hb|refine fd ?_|fail))
  exact kQ _ _ _ ⟨rfl,by simp[up,h0],by simp[up,h2],rfl⟩
 ·rintro x rest i _ t h J Q' kJ kQ hx hi ⟨h0,h2,h11,h12,h13,rfl⟩
  have hd:decide ((i:Int)<(([]:List Aa).length:Int))=true:=decide_eq_true (by omega)
  have hw:=Ai hi (by simp[maxLen])
  cases hx
 ·exact⟨by simp[up,Bw],by simp[up,Bw],by simp[up,Bw],by simp[up,Bw],by simp[up],rfl⟩
 ·obtain⟨rfl,h0,h2,rfl⟩:=hk
  (have hb:=trivial;with_reducible repeat' (first|simp only[hb,Vb.down,seval,Zj.down,h0,h2]|refine Af ?_ ?_<;>intro hb|refine fd ?_|fail))
def Ht(t:Aa)(G:List Int):List Int:=
 sI (sI G t.frm (IntKind.i64.wrap (gI G t.frm-t.amount))) t.to (IntKind.i64.wrap (gI (sI G t.frm (IntKind.i64.wrap (gI G t.frm-t.amount))) t.to+t.amount))
def Hq(cs:List Ag)(t:Aa)(G:List Int)(n:Nat):Bool:=
 decide (gI G t.frm<t.amount)||decide (IntKind.i64.wrap (Gw cs t.to-gI G t.to)<t.amount)||(!(t.back== -1)&&decide ((50:Int)≤(n:Int)))
def Am(cs:List Ag)(hr:Int):List Aa→Nat→List Int × List Aa × List Int→List Int × List Aa × List Int
 | [],_,a=>a
 |t::rest,i,(G,O,R)=>
  if(t.hour==hr)=true then
   if Hq cs t G O.length=true then Am cs hr rest (i+1) (G,O,R++[(i:Int)])
   else Am cs hr rest (i+1) (Ht t G,if(t.back== -1)=true then O else O++[t],R)
  else Am cs hr rest (i+1) (G,O,R)
theorem Gv(t:Aa)(G:List Int):(Ht t G).length=G.length:=by simp[Ht,Bg]
def P3(O0:List Aa)(ov:AV)(O':List Aa)(g:Ab):Prop:=g[0]?=some .dead∨∃w,g[0]?=some (.live 5 true w (O'.map Aa.cells))∧ov=.slr 5 3 0 O'.length∧O'=O0
theorem P3.app{O0:List Aa}{ov:AV}{O':List Aa}{g:Ab}(h:P3 O0 ov O' g)(l:Ab):P3 O0 ov O' (g++l):=by
 rcases h with h|⟨w,h,e⟩
 ·exact .inl (Av h l)
 ·exact .inr ⟨w,Av h l,e⟩
theorem P3.kl{O0:List Aa}{ov rv:AV}{O':List Aa}{g:Ab}{rows:List (List AV)}(h:P3 O0 ov O' g)(hr:Do 3 1 true rows rv g):P3 O0 ov O' (kl 3 rv g):=by
 rcases hr with⟨_,rfl⟩|⟨b,w,rfl,hb⟩
 ·exact h
 ·have hne:b≠0:=fun e=>by
   subst e
   rcases h with h|⟨w',h,_⟩<;>rw[h]at hb<;>simp at hb
  simp only[Ev.kl,aeW]
  unfold P3
  rw[ae7 hne]
  exact h
theorem P3.dead{O0 O' O'':List Aa}{ov:AV}{b n:Nat}{g:Ab}(h:P3 O0 (.slr 5 (b+3) 0 n) O' g)(hb:b<g.length):P3 O0 ov O'' (g.set b .dead):=by
 refine .inl ?_
 by_cases e:b=0
 ·subst e;simp[hb]
 ·rw[ae7 e]
  rcases h with h|⟨w,_,h,_⟩
  ·exact h
  ·simp only[AV.slr.injEq]at h;omega
theorem aeA{s:Ac}{d:Ap}{w w1 w2 w3:Bool}{hr own fuel:Int}{G L:List Int}{O:List Aa}(hG:G.length=s.cons.length)(hO:O=[])(hd50:d.trades.length≤1000)(ho:∀t∈d.trades,t.ok s.cons.length):
 Ql Bi 105 [.ptr 0 0 0] [.live 19 false w [(rc s d hr (.slr 1 1 0 G.length) own fuel (.slr 1 2 0 L.length) .nils .nils .nils .nils .nils)],.live 1 true w1 (G.map iv),.live 1 true w2 (L.map iv)]
  fun o h'=>o=.ret (.tup [])∧∃(wr wG wo wR:Bool) (ov rv:AV) (T:Ab),∀G' O' R,Am s.cons hr d.trades 0 (G,O,[])=(G',O',R)→(wG=false→G'=G)∧(wr=false→ov=.nils∧rv=.nils)∧h'=[.live 19 false wr [(rc s d hr (.slr 1 1 0 G.length) own fuel (.slr 1 2 0 L.length) ov .nils .nils .nils rv)],.live 1 true wG (G'.map iv),.live 1 true w2 (L.map iv)]++T∧((O'=[]∧R=[]∧ov=.nils∧rv=.nils∧T=[])∨(O'≠[]∧R=[]∧ov=.slr 5 3 0 O'.length∧rv=.nils∧T=[.live 5 true wo (O'.map Aa.cells)])∨(O'=[]∧R≠[]∧ov=.nils∧rv=.slr 1 3 0 R.length∧T=[.live 1 true wR (R.map iv)])∨(O'≠[]∧R≠[]∧ov=.slr 5 3 0 O'.length∧rv=.slr 1 4 0 R.length∧T=[.live 5 true wo (O'.map Aa.cells),.live 1 true wR (R.map iv)])):=by
 have hl':d.trades.length≤maxLen:=by unfold maxLen;omega
 have hO1:O.length≤1000:=by first|exact hO|(rw[hO];simp)
 refine Je rfl Tryz.func105 rfl rfl ?_
 simp only[Tryz.f105]
 (have hb:=trivial;with_reducible repeat' (first|simp only[hb,Vb.down,seval,Jl.down,aaS]|refine Af ?_ ?_<;>intro hb|refine fd ?_|fail))
 refine Cd (Np 112 d.trades (fun i (zz:List Int × List Aa × List Int × Nat) t h=>t 0=.ptr 0 0 0∧t 9=Ao 5 true d.nt (d.trades.map Aa.cells)∧t 10=.int .i64 d.trades.length∧t 11=.int .i64 i∧(∃wr wG g ov rv,h=.live 19 false wr [(rc s d hr (.slr 1 1 0 G.length) own fuel (.slr 1 2 0 L.length) ov .nils .nils .nils rv)]::.live 1 true wG (zz.1.map iv)::.live 1 true w2 (L.map iv)::g∧Bv g=true∧(wG=false→zz.1=G)∧(wr=false→ov=.nils∧rv=.nils)∧zz.1.length=G.length∧zz.2.1.length≤O.length+i∧zz.2.2.1.length≤i∧i=zz.2.2.2∧Do 3 5 true (zz.2.1.map Aa.cells) ov g∧Do 3 1 true (zz.2.2.1.map iv) rv g∧jZ ov rv∧(zz.2.1=[]→ov=.nils)∧(zz.2.2.1=[]→rv=.nils))) (fun rest zz=>Am s.cons hr rest zz.2.2.2 (zz.1,zz.2.1,zz.2.2.1)) (fun r e t h=>e=.exit 0∧∃wr wG g ov rv,h=.live 19 false wr [(rc s d hr (.slr 1 1 0 G.length) own fuel (.slr 1 2 0 L.length) ov .nils .nils .nils rv)]::.live 1 true wG (r.1.map iv)::.live 1 true w2 (L.map iv)::g∧Bv g=true∧(wG=false→r.1=G)∧(wr=false→ov=.nils∧rv=.nils)∧Do 3 5 true (r.2.1.map Aa.cells) ov g∧Do 3 1 true (r.2.2.map iv) rv g∧jZ ov rv∧(r.2.1=[]→ov=.nils)∧(r.2.2=[]→rv=.nils)) ?_ ?_ (G,O,[],0) _ _ ?_) (fun e t h hk=>?_)
 ·rintro⟨G',O',R,k⟩ t h Q' kQ ⟨h0,h9,h10,h11,⟨wr,wG,g,ov,rv,rfl,hqg,hwG,hwr,hG',hOl,hRl,rfl,hown,hrow,hsp,⟨hx1,hx2⟩⟩⟩
  try dsimp only at *
  (have hb:=trivial;with_reducible repeat' (first|simp only[hb,Vb.down,seval,Jl.down,h0,h9,h10,h11,ab9,decide_false]|refine Af ?_ ?_<;>intro hb|refine fd ?_|fail))
  exact kQ _ _ _ ⟨rfl,wr,wG,g,ov,rv,rfl,hqg,hwG,hwr,hown,hrow,hsp,⟨hx1,hx2⟩⟩
 ·rintro x rest i ⟨G',O',R,k⟩ t h J Q' kJ kQ hx hi ⟨h0,h9,h10,h11,⟨wr,wG,g,ov,rv,rfl,hqg,hwG,hwr,hG',hOl,hRl,rfl,hown,hrow,hsp,⟨hx1,hx2⟩⟩⟩
  have hd:decide ((i:Int)<(d.trades.length:Int))=true:=decide_eq_true (by omega)
  have hw:=Ai hi hl'
  try dsimp only at *
  obtain⟨⟨f0,f1⟩,k0,k1⟩:=ho x (acF hx)
  have e1:(0≤x.to)=True:=eq_true k0
  have e2:(x.to<(G.length:Int))=True:=eq_true (by omega)
  have e4:(0≤x.frm)=True:=eq_true f0
  have e5:(x.frm<(G.length:Int))=True:=eq_true (by omega)
  have hii:((i:Int)<(d.trades.length:Int))=True:=eq_true (by omega)
  obtain⟨ct,hct⟩:∃c,s.cons[x.to.toNat]?=some c:=⟨_,acK (by omega)⟩
  have a1:G'[x.to.toNat]?=some (gI G' x.to):=Ff (by omega)
  have a3:G'[x.frm.toNat]?=some (gI G' x.frm):=Ff (by omega)
  have a5:∀v,(sI G' x.frm v)[x.to.toNat]?=some (gI (sI G' x.frm v) x.to):=fun v=>Ff (by rw[Bg];omega)
  have hroom:∀(tl:Ab),Bi.call (.sh 130) [.ptr 0 0 0,.int .i64 x.to] (.live 19 false false [(rc s d hr (.slr 1 1 0 G.length) own fuel (.slr 1 2 0 L.length) ov .nils .nils .nils rv)]::.live 1 true false (G'.map iv)::tl)=
   some (.ret (.int .i64 (IntKind.i64.wrap (ct.space-gI G' x.to))),.live 19 false false [(rc s d hr (.slr 1 1 0 G.length) own fuel (.slr 1 2 0 L.length) ov .nils .nils .nils rv)]::.live 1 true false (G'.map iv)::tl):=fun tl=>
   dG (b:=0) (bg:=1) (n:=G.length) hG' rfl rfl ⟨k0,by omega⟩ hct
  have hse:=fun i l l'=>aH hqg i l l'
  have hln:=hown.ln Tryz.underlying46
  have hc1:=Do.cell hown
  have hc2:=Do.cell hrow
  have hc3:=Do.acells hown
  have hc4:=Do.acells hrow
  cases hbk:(x.hour==hr)with
  |false=>
   (have hb:=trivial;with_reducible repeat' (first|simp only[hb,Vb.down,seval,Jl.down,h0,h9,h10,h11,hd,hx,hw,hii,hbk,Aa.cells,aaS,aaW]|refine Af ?_ ?_<;>intro hb|refine fd ?_|fail))
   (refine Ah (kJ _ _ (G',O',R,i+1) ⟨?_,?_,?_,?_,⟨wr,wG,_,ov,rv,rfl,by rw[Ep,hqg];rfl,hwG,hwr,hG',by dsimp only;omega,by dsimp only;omega,rfl,hown.app _,hrow.app _,hsp,⟨hx1,hx2⟩⟩⟩ ?_);(simp[up,h0]);(simp[up,h9]);(simp[up,h10]);(simp[up]);(simp[Am,hbk]))
  |true=>
   cases hno:Hq s.cons x G' O'.length with
   |true=>
    have hap1:=fun(q:Ab) (r:List AV)=>bW hrow (pre:=[.live 19 false wr [(rc s d hr (.slr 1 1 0 G.length) own fuel (.slr 1 2 0 L.length) ov .nils .nils .nils rv)],.live 1 true wG (G'.map iv),.live 1 true w2 (L.map iv)]) rfl q r [] (by simp;omega)
    have hhp1:=fun(q:Ab) (r:List (List AV)) (ba:Nat)=>Xu hrow (pre:=[.live 19 false wr [(rc s d hr (.slr 1 1 0 G.length) own fuel (.slr 1 2 0 L.length) ov .nils .nils .nils rv)],.live 1 true wG (G'.map iv),.live 1 true w2 (L.map iv)]) rfl q 1 true r ba
    simp only[ae8,afM,af4,aaS,ai5,akJ,abY,Bt,Nat.reduceAdd]at hap1 hhp1
    have hno':=hno
    simp only[Hq,Gw,hct,acZ,adV]at hno'
    cases d1:decide (gI G' x.frm<x.amount)with
    |true=>
     (have hb:=trivial;with_reducible repeat' (first|simp only[hb,Vb.down,seval,Jl.down,d1,h0,h9,h10,h11,hd,hx,hw,hii,hbk,Aa.cells,Ag.cells,e1,e2,e4,e5,a1,a3,a5,hct,hroom,hse,iv,Dt,aaS,aaW,aa6,hln,hc1,hc2,hap1,hhp1,Ek,Bt,abB]|refine Af ?_ ?_<;>intro hb|refine fd ?_|fail))
     (refine Ah (kJ _ _ (G',O',R++[(i:Int)],i+1) ⟨?_,?_,?_,?_,⟨true,wG,_,ov,_,rfl,by rw[Ep,Tt hqg];rfl,hwG,(fun h=>by cases h),hG',by dsimp only;omega,by simp;omega,rfl,(hown.kl hrow hsp.symm).app _,Do.blk (b:=g.length+2) (w:=false) (by simp[Ek,iv]) (by omega) (by simp),(hown.sep (by omega)),⟨hx1,fun h=>absurd h (by simp)⟩⟩⟩ ?_);(simp[up,h0]);(simp[up,h9]);(simp[up,h10]);(simp[up]);(simp[Am,hbk,hno]))
    |false=>
     cases d2:decide (IntKind.i64.wrap (ct.space-gI G' x.to)<x.amount)with
     |true=>
      (have hb:=trivial;with_reducible repeat' (first|simp only[hb,Vb.down,seval,Jl.down,d1,d2,h0,h9,h10,h11,hd,hx,hw,hii,hbk,Aa.cells,Ag.cells,e1,e2,e4,e5,a1,a3,a5,hct,hroom,hse,iv,Dt,aaS,aaW,aa6,hln,hc1,hc2,hap1,hhp1,Ek,Bt,abB]|refine Af ?_ ?_<;>intro hb|refine fd ?_|fail))
      (refine Ah (kJ _ _ (G',O',R++[(i:Int)],i+1) ⟨?_,?_,?_,?_,⟨true,wG,_,ov,_,rfl,by rw[Ep,Tt hqg];rfl,hwG,(fun h=>by cases h),hG',by dsimp only;omega,by simp;omega,rfl,(hown.kl hrow hsp.symm).app _,Do.blk (b:=g.length+2) (w:=false) (by simp[Ek,iv]) (by omega) (by simp),(hown.sep (by omega)),⟨hx1,fun h=>absurd h (by simp)⟩⟩⟩ ?_);(simp[up,h0]);(simp[up,h9]);(simp[up,h10]);(simp[up]);(simp[Am,hbk,hno]))
     |false=>
      rw[d1,d2]at hno'
      have d3:(x.back== -1)=false:=by simpa using (by simpa using hno':_∧_).1
      have d4:decide ((50:Int)≤(O'.length:Int))=true:=by simpa using (by simpa using hno':_∧_).2
      (have hb:=trivial;with_reducible repeat' (first|simp only[hb,Vb.down,seval,Jl.down,d1,d2,d3,d4,h0,h9,h10,h11,hd,hx,hw,hii,hbk,Aa.cells,Ag.cells,e1,e2,e4,e5,a1,a3,a5,hct,hroom,hse,iv,Dt,aaS,aaW,aa6,hln,hc1,hc2,hap1,hhp1,Ek,Bt,abB]|refine Af ?_ ?_<;>intro hb|refine fd ?_|fail))
      (refine Ah (kJ _ _ (G',O',R++[(i:Int)],i+1) ⟨?_,?_,?_,?_,⟨true,wG,_,ov,_,rfl,by rw[Ep,Tt hqg];rfl,hwG,(fun h=>by cases h),hG',by dsimp only;omega,by simp;omega,rfl,(hown.kl hrow hsp.symm).app _,Do.blk (b:=g.length+2) (w:=false) (by simp[Ek,iv]) (by omega) (by simp),(hown.sep (by omega)),⟨hx1,fun h=>absurd h (by simp)⟩⟩⟩ ?_);(simp[up,h0]);(simp[up,h9]);(simp[up,h10]);(simp[up]);(simp[Am,hbk,hno]))
   |false=>
    have hno':=hno
    simp only[Hq,Gw,hct,acZ,adV,alC]at hno'
    obtain⟨⟨d1,d2⟩,d3⟩:=hno'
    cases c1:(x.back== -1)with
    |true=>
     (have hb:=trivial;with_reducible repeat' (first|simp only[hb,Vb.down,seval,Jl.down,d1,d2,c1,h0,h9,h10,h11,hd,hx,hw,hii,hbk,Aa.cells,Ag.cells,e1,e2,e4,e5,a1,a3,a5,hct,hroom,hse,iv,Dt,aaS,aaW,aa6,hln,hc1,hc2,Ek,Bt,abB,Sr]|refine Af ?_ ?_<;>intro hb|refine fd ?_|fail))
     (refine Ah (kJ _ _ (Ht x G',O',R,i+1) ⟨?_,?_,?_,?_,⟨wr,true,g++[.live 5 true true [x.cells]],ov,rv,by simp[Ht,Aa.cells],by rw[Ep,hqg];rfl,(fun h=>by cases h),hwr,by rw[Gv];exact hG',by dsimp only;omega,by dsimp only;omega,rfl,hown.app _,hrow.app _,hsp,⟨hx1,hx2⟩⟩⟩ ?_);(simp[up,h0]);(simp[up,h9]);(simp[up,h10]);(simp[up]);(simp[Am,hbk,hno,c1]))
    |false=>
     have d4:decide ((50:Int)≤(O'.length:Int))=false:=by rw[c1]at d3;simpa using d3
     have hown':=hown
     rcases hown with⟨hO0,rfl⟩|⟨b,wo,rfl,hgb⟩
     ·obtain rfl:O'=[]:=abO.1 hO0
      have d5:decide ((50:Int)≤0)=false:=rfl
      have hno0:Hq s.cons x G' 0=false:=hno
      (have hb:=trivial;with_reducible repeat' (first|simp only[hb,Vb.down,seval,Jl.down,d1,d2,c1,d4,d5,abY,aeP,h0,h9,h10,h11,hd,hx,hw,hii,hbk,Aa.cells,Ag.cells,e1,e2,e4,e5,a1,a3,a5,hct,hroom,hse,iv,Dt,aaS,aaW,aa6,hln,hc2,Ek,Bt,abB,Sr]|refine Af ?_ ?_<;>intro hb|refine fd ?_|fail))
      (refine Ah (kJ _ _ (Ht x G',[]++[x],R,i+1) ⟨?_,?_,?_,?_,⟨true,true,_,_,rv,rfl,by rw[Ep,hqg];rfl,(fun h=>by cases h),(fun h=>by cases h),by rw[Gv];exact hG',by simp;omega,by dsimp only;omega,rfl,Do.blk (b:=g.length+2) (w:=false) (by simp[Aa.cells]) (by omega) (by simp),hrow.app _,(hrow.sep (by omega)).symm,⟨by simp,hx2⟩⟩⟩ ?_);(simp[up,h0]);(simp[up,h9]);(simp[up,h10]);(simp[up]);(simp[Am,hbk,hno0,c1]))
     ·have hbl:b<g.length:=(aeH.1 hgb).1
      have hA:=Av hgb
      have hS:=Fa hbl
      have hi39:(O'.length+1≤549755813888)=True:=eq_true (by omega)
      have hrk:=hrow.kl hown' hsp
      simp only[kl,aeW]at hrk
      simp only[aaS]at hroom
      (have hb:=trivial;with_reducible repeat' (first|simp only[hb,Vb.down,seval,Jl.down,d1,d2,c1,d4,hA,hS,Lr,Ge,aeM,hi39,h0,h9,h10,h11,hd,hx,hw,hii,hbk,Aa.cells,Ag.cells,e1,e2,e4,e5,a1,a3,a5,hct,hroom,hse,iv,Dt,aaS,aaW,aa6,hln,hc2,Ek,Bt,abB,Sr]|refine Af ?_ ?_<;>intro hb|refine fd ?_|fail))
      (refine Ah (kJ _ _ (Ht x G',O'++[x],R,i+1) ⟨?_,?_,?_,?_,⟨true,true,_,_,rv,rfl,by rw[Ep,dH hqg b];rfl,(fun h=>by cases h),(fun h=>by cases h),by rw[Gv];exact hG',by simp;omega,by dsimp only;omega,rfl,Do.blk (b:=g.length+2) (w:=false) (by rw[Ge];simp[Aa.cells]) (by omega) (by simp),hrk.app _,(hrow.sep (by omega)).symm,⟨by simp,hx2⟩⟩⟩ ?_);(simp[up,h0]);(simp[up,h9]);(simp[up,h10]);(simp[up]);(simp[Am,hbk,hno,c1]))
 ·exact⟨by simp[up,Bw],by simp[up,Bw],by simp[up,Bw],by simp[up],⟨_,_,_,_,_,rfl,rfl,fun _=>rfl,fun _=>⟨rfl,rfl⟩,rfl,by simp,by simp,rfl,.inl ⟨by rw[hO];rfl,rfl⟩,.inl ⟨rfl,rfl⟩,jZ.nils _,⟨fun _=>rfl,fun _=>rfl⟩⟩⟩
 ·obtain⟨rfl,wr,wG,g,ov,rv,rfl,hqg,hwG,hwr,hown,hrow,hsp,⟨hx1,hx2⟩⟩:=hk
  generalize hr0:Am s.cons hr d.trades 0 (G,O,[])=r at *
  obtain⟨G',O',R⟩:=r
  dsimp only at *
  rcases hown with⟨hO0,rfl⟩|⟨b,wo,rfl,hgb⟩<;>rcases hrow with⟨hR0,rfl⟩|⟨b2,wR,rfl,hgr⟩
  ·(have hb:=trivial;with_reducible repeat' (first|simp only[hb,Vb.down,seval,Jl.down,aaS]|refine Af ?_ ?_<;>intro hb|refine fd ?_|fail))
   exact⟨wr,wG,false,false,.nils,.nils,[],fun _ _ _ e=>by cases e;exact⟨hwG,(fun h=>by have q:=hwr h;first|(simp;done)|(simp at q ⊢ <;>first|exact q|omega)),rfl,.inl ⟨abO.1 hO0,abO.1 hR0,rfl,rfl,rfl⟩⟩⟩
  ·(have hb:=trivial;with_reducible repeat' (first|simp only[hb,Vb.down,seval,Jl.down,aaS,hgr]|refine Af ?_ ?_<;>intro hb|refine fd ?_|fail))
   exact⟨wr,wG,false,wR,.nils,.slr 1 3 0 R.length,_,fun _ _ _ e=>by cases e;exact⟨hwG,(fun h=>by have q:=hwr h;first|(simp;done)|(simp at q ⊢ <;>first|exact q|omega)),rfl,.inr (.inr (.inl ⟨abO.1 hO0,fun h=>(by cases hx2 h),rfl,rfl,rfl⟩))⟩⟩
  ·(have hb:=trivial;with_reducible repeat' (first|simp only[hb,Vb.down,seval,Jl.down,aaS,hgb]|refine Af ?_ ?_<;>intro hb|refine fd ?_|fail))
   exact⟨wr,wG,wo,false,.slr 5 3 0 O'.length,.nils,_,fun _ _ _ e=>by cases e;exact⟨hwG,(fun h=>by have q:=hwr h;first|(simp;done)|(simp at q ⊢ <;>first|exact q|omega)),rfl,.inr (.inl ⟨fun h=>(by cases hx1 h),abO.1 hR0,rfl,rfl,rfl⟩)⟩⟩
  ·have hne:(b=b2)=False:=eq_false fun e=>hsp _ _ _ _ _ _ _ _ rfl rfl (by omega)
   have hne':(b2=b)=False:=eq_false fun e=>hsp _ _ _ _ _ _ _ _ rfl rfl (by omega)
   (have hb:=trivial;with_reducible repeat' (first|simp only[hb,Vb.down,seval,Jl.down,aaS,hgb,hgr,hne,hne']|refine Af ?_ ?_<;>intro hb|refine fd ?_|fail))
   exact⟨wr,wG,wo,wR,.slr 5 3 0 O'.length,.slr 1 4 0 R.length,_,fun _ _ _ e=>by cases e;exact⟨hwG,(fun h=>by have q:=hwr h;first|(simp;done)|(simp at q ⊢ <;>first|exact q|omega)),rfl,.inr (.inr (.inr ⟨fun h=>(by cases hx1 h),fun h=>(by cases hx2 h),rfl,rfl,rfl⟩))⟩⟩
theorem adT{s:Ac}{d:Ap}{w w1 w2 w3:Bool}{hr own fuel:Int}{G L:List Int}{O:List Aa}(hG:G.length=s.cons.length)(hO:O.length≤1000)(hd50:d.trades.length≤1000)(ho:∀t∈d.trades,t.ok s.cons.length):
 Ql Bi 105 [.ptr 0 0 0] [.live 19 false w [(rc s d hr (.slr 1 1 0 G.length) own fuel (.slr 1 2 0 L.length) (.slr 5 3 0 O.length) .nils .nils .nils .nils)],.live 1 true w1 (G.map iv),.live 1 true w2 (L.map iv),.live 5 true w3 (O.map Aa.cells)]
  fun o h'=>o=.ret (.tup [])∧∃(wr wG wo wR:Bool) (ov rv:AV) (T:Ab),∀G' O' R,Am s.cons hr d.trades 0 (G,O,[])=(G',O',R)→(wG=false→G'=G)∧(wr=false→ov=.slr 5 3 0 O.length∧rv=.nils)∧h'=[.live 19 false wr [(rc s d hr (.slr 1 1 0 G.length) own fuel (.slr 1 2 0 L.length) ov .nils .nils .nils rv)],.live 1 true wG (G'.map iv),.live 1 true w2 (L.map iv)]++T∧((R=[]∧O'=O∧ov=.slr 5 3 0 O'.length∧rv=.nils∧T=[.live 5 true wo (O'.map Aa.cells)])∨(R≠[]∧O'=O∧ov=.slr 5 3 0 O'.length∧rv=.slr 1 4 0 R.length∧T=[.live 5 true wo (O'.map Aa.cells),.live 1 true wR (R.map iv)])∨(R=[]∧ov=.slr 5 4 0 O'.length∧rv=.nils∧T=[.dead,.live 5 true wo (O'.map Aa.cells)])∨(R≠[]∧ov=.slr 5 4 0 O'.length∧rv=.slr 1 5 0 R.length∧T=[.dead,.live 5 true wo (O'.map Aa.cells),.live 1 true wR (R.map iv)])):=by
 have hl':d.trades.length≤maxLen:=by unfold maxLen;omega
 have hO1:O.length≤1000:=by first|exact hO|(rw[hO];simp)
 refine Je rfl Tryz.func105 rfl rfl ?_
 simp only[Tryz.f105]
 (have hb:=trivial;with_reducible repeat' (first|simp only[hb,Vb.down,seval,Jl.down,aaS]|refine Af ?_ ?_<;>intro hb|refine fd ?_|fail))
 refine Cd (Np 112 d.trades (fun i (zz:List Int × List Aa × List Int × Nat) t h=>t 0=.ptr 0 0 0∧t 9=Ao 5 true d.nt (d.trades.map Aa.cells)∧t 10=.int .i64 d.trades.length∧t 11=.int .i64 i∧(∃wr wG g ov rv,h=.live 19 false wr [(rc s d hr (.slr 1 1 0 G.length) own fuel (.slr 1 2 0 L.length) ov .nils .nils .nils rv)]::.live 1 true wG (zz.1.map iv)::.live 1 true w2 (L.map iv)::g∧Bv g=true∧(wG=false→zz.1=G)∧(wr=false→ov=.slr 5 3 0 O.length∧rv=.nils)∧zz.1.length=G.length∧zz.2.1.length≤O.length+i∧zz.2.2.1.length≤i∧i=zz.2.2.2∧Do 3 5 true (zz.2.1.map Aa.cells) ov g∧Do 3 1 true (zz.2.2.1.map iv) rv g∧jZ ov rv∧ov≠.nils∧(zz.2.2.1=[]→rv=.nils)∧P3 O ov zz.2.1 g)) (fun rest zz=>Am s.cons hr rest zz.2.2.2 (zz.1,zz.2.1,zz.2.2.1)) (fun r e t h=>e=.exit 0∧∃wr wG g ov rv,h=.live 19 false wr [(rc s d hr (.slr 1 1 0 G.length) own fuel (.slr 1 2 0 L.length) ov .nils .nils .nils rv)]::.live 1 true wG (r.1.map iv)::.live 1 true w2 (L.map iv)::g∧Bv g=true∧(wG=false→r.1=G)∧(wr=false→ov=.slr 5 3 0 O.length∧rv=.nils)∧Do 3 5 true (r.2.1.map Aa.cells) ov g∧Do 3 1 true (r.2.2.map iv) rv g∧jZ ov rv∧ov≠.nils∧(r.2.2=[]→rv=.nils)∧P3 O ov r.2.1 g) ?_ ?_ (G,O,[],0) _ _ ?_) (fun e t h hk=>?_)
 ·rintro⟨G',O',R,k⟩ t h Q' kQ ⟨h0,h9,h10,h11,⟨wr,wG,g,ov,rv,rfl,hqg,hwG,hwr,hG',hOl,hRl,rfl,hown,hrow,hsp,⟨hx1,hx2,hx3⟩⟩⟩
  try dsimp only at *
  (have hb:=trivial;with_reducible repeat' (first|simp only[hb,Vb.down,seval,Jl.down,h0,h9,h10,h11,ab9,decide_false]|refine Af ?_ ?_<;>intro hb|refine fd ?_|fail))
  exact kQ _ _ _ ⟨rfl,wr,wG,g,ov,rv,rfl,hqg,hwG,hwr,hown,hrow,hsp,⟨hx1,hx2,hx3⟩⟩
 ·rintro x rest i ⟨G',O',R,k⟩ t h J Q' kJ kQ hx hi ⟨h0,h9,h10,h11,⟨wr,wG,g,ov,rv,rfl,hqg,hwG,hwr,hG',hOl,hRl,rfl,hown,hrow,hsp,⟨hx1,hx2,hx3⟩⟩⟩
  have hd:decide ((i:Int)<(d.trades.length:Int))=true:=decide_eq_true (by omega)
  have hw:=Ai hi hl'
  try dsimp only at *
  obtain⟨⟨f0,f1⟩,k0,k1⟩:=ho x (acF hx)
  have e1:(0≤x.to)=True:=eq_true k0
  have e2:(x.to<(G.length:Int))=True:=eq_true (by omega)
  have e4:(0≤x.frm)=True:=eq_true f0
  have e5:(x.frm<(G.length:Int))=True:=eq_true (by omega)
  have hii:((i:Int)<(d.trades.length:Int))=True:=eq_true (by omega)
  obtain⟨ct,hct⟩:∃c,s.cons[x.to.toNat]?=some c:=⟨_,acK (by omega)⟩
  have a1:G'[x.to.toNat]?=some (gI G' x.to):=Ff (by omega)
  have a3:G'[x.frm.toNat]?=some (gI G' x.frm):=Ff (by omega)
  have a5:∀v,(sI G' x.frm v)[x.to.toNat]?=some (gI (sI G' x.frm v) x.to):=fun v=>Ff (by rw[Bg];omega)
  have hroom:∀(tl:Ab),Bi.call (.sh 130) [.ptr 0 0 0,.int .i64 x.to] (.live 19 false false [(rc s d hr (.slr 1 1 0 G.length) own fuel (.slr 1 2 0 L.length) ov .nils .nils .nils rv)]::.live 1 true false (G'.map iv)::tl)=
   some (.ret (.int .i64 (IntKind.i64.wrap (ct.space-gI G' x.to))),.live 19 false false [(rc s d hr (.slr 1 1 0 G.length) own fuel (.slr 1 2 0 L.length) ov .nils .nils .nils rv)]::.live 1 true false (G'.map iv)::tl):=fun tl=>
   dG (b:=0) (bg:=1) (n:=G.length) hG' rfl rfl ⟨k0,by omega⟩ hct
  have hse:=fun i l l'=>aH hqg i l l'
  have hln:=hown.ln Tryz.underlying46
  have hc1:=Do.cell hown
  have hc2:=Do.cell hrow
  have hc3:=Do.acells hown
  have hc4:=Do.acells hrow
  cases hbk:(x.hour==hr)with
  |false=>
   (have hb:=trivial;with_reducible repeat' (first|simp only[hb,Vb.down,seval,Jl.down,h0,h9,h10,h11,hd,hx,hw,hii,hbk,Aa.cells,aaS,aaW]|refine Af ?_ ?_<;>intro hb|refine fd ?_|fail))
   (refine Ah (kJ _ _ (G',O',R,i+1) ⟨?_,?_,?_,?_,⟨wr,wG,_,ov,rv,rfl,by rw[Ep,hqg];rfl,hwG,hwr,hG',by dsimp only;omega,by dsimp only;omega,rfl,hown.app _,hrow.app _,hsp,⟨hx1,hx2,hx3.app _⟩⟩⟩ ?_);(simp[up,h0]);(simp[up,h9]);(simp[up,h10]);(simp[up]);(simp[Am,hbk]))
  |true=>
   cases hno:Hq s.cons x G' O'.length with
   |true=>
    have hap1:=fun(q:Ab) (r:List AV)=>bW hrow (pre:=[.live 19 false wr [(rc s d hr (.slr 1 1 0 G.length) own fuel (.slr 1 2 0 L.length) ov .nils .nils .nils rv)],.live 1 true wG (G'.map iv),.live 1 true w2 (L.map iv)]) rfl q r [] (by simp;omega)
    have hhp1:=fun(q:Ab) (r:List (List AV)) (ba:Nat)=>Xu hrow (pre:=[.live 19 false wr [(rc s d hr (.slr 1 1 0 G.length) own fuel (.slr 1 2 0 L.length) ov .nils .nils .nils rv)],.live 1 true wG (G'.map iv),.live 1 true w2 (L.map iv)]) rfl q 1 true r ba
    simp only[ae8,afM,af4,aaS,ai5,akJ,abY,Bt,Nat.reduceAdd]at hap1 hhp1
    have hno':=hno
    simp only[Hq,Gw,hct,acZ,adV]at hno'
    cases d1:decide (gI G' x.frm<x.amount)with
    |true=>
     (have hb:=trivial;with_reducible repeat' (first|simp only[hb,Vb.down,seval,Jl.down,d1,h0,h9,h10,h11,hd,hx,hw,hii,hbk,Aa.cells,Ag.cells,e1,e2,e4,e5,a1,a3,a5,hct,hroom,hse,iv,Dt,aaS,aaW,aa6,hln,hc1,hc2,hap1,hhp1,Ek,Bt,abB]|refine Af ?_ ?_<;>intro hb|refine fd ?_|fail))
     (refine Ah (kJ _ _ (G',O',R++[(i:Int)],i+1) ⟨?_,?_,?_,?_,⟨true,wG,_,ov,_,rfl,by rw[Ep,Tt hqg];rfl,hwG,(fun h=>by cases h),hG',by dsimp only;omega,by simp;omega,rfl,(hown.kl hrow hsp.symm).app _,Do.blk (b:=g.length+2) (w:=false) (by simp[Ek,iv]) (by omega) (by simp),(hown.sep (by omega)),⟨hx1,fun h=>absurd h (by simp),(hx3.kl hrow).app _⟩⟩⟩ ?_);(simp[up,h0]);(simp[up,h9]);(simp[up,h10]);(simp[up]);(simp[Am,hbk,hno]))
    |false=>
     cases d2:decide (IntKind.i64.wrap (ct.space-gI G' x.to)<x.amount)with
     |true=>
      (have hb:=trivial;with_reducible repeat' (first|simp only[hb,Vb.down,seval,Jl.down,d1,d2,h0,h9,h10,h11,hd,hx,hw,hii,hbk,Aa.cells,Ag.cells,e1,e2,e4,e5,a1,a3,a5,hct,hroom,hse,iv,Dt,aaS,aaW,aa6,hln,hc1,hc2,hap1,hhp1,Ek,Bt,abB]|refine Af ?_ ?_<;>intro hb|refine fd ?_|fail))
      (refine Ah (kJ _ _ (G',O',R++[(i:Int)],i+1) ⟨?_,?_,?_,?_,⟨true,wG,_,ov,_,rfl,by rw[Ep,Tt hqg];rfl,hwG,(fun h=>by cases h),hG',by dsimp only;omega,by simp;omega,rfl,(hown.kl hrow hsp.symm).app _,Do.blk (b:=g.length+2) (w:=false) (by simp[Ek,iv]) (by omega) (by simp),(hown.sep (by omega)),⟨hx1,fun h=>absurd h (by simp),(hx3.kl hrow).app _⟩⟩⟩ ?_);(simp[up,h0]);(simp[up,h9]);(simp[up,h10]);(simp[up]);(simp[Am,hbk,hno]))
     |false=>
      rw[d1,d2]at hno'
      have d3:(x.back== -1)=false:=by simpa using (by simpa using hno':_∧_).1
      have d4:decide ((50:Int)≤(O'.length:Int))=true:=by simpa using (by simpa using hno':_∧_).2
      (have hb:=trivial;with_reducible repeat' (first|simp only[hb,Vb.down,seval,Jl.down,d1,d2,d3,d4,h0,h9,h10,h11,hd,hx,hw,hii,hbk,Aa.cells,Ag.cells,e1,e2,e4,e5,a1,a3,a5,hct,hroom,hse,iv,Dt,aaS,aaW,aa6,hln,hc1,hc2,hap1,hhp1,Ek,Bt,abB]|refine Af ?_ ?_<;>intro hb|refine fd ?_|fail))
      (refine Ah (kJ _ _ (G',O',R++[(i:Int)],i+1) ⟨?_,?_,?_,?_,⟨true,wG,_,ov,_,rfl,by rw[Ep,Tt hqg];rfl,hwG,(fun h=>by cases h),hG',by dsimp only;omega,by simp;omega,rfl,(hown.kl hrow hsp.symm).app _,Do.blk (b:=g.length+2) (w:=false) (by simp[Ek,iv]) (by omega) (by simp),(hown.sep (by omega)),⟨hx1,fun h=>absurd h (by simp),(hx3.kl hrow).app _⟩⟩⟩ ?_);(simp[up,h0]);(simp[up,h9]);(simp[up,h10]);(simp[up]);(simp[Am,hbk,hno]))
   |false=>
    have hno':=hno
    simp only[Hq,Gw,hct,acZ,adV,alC]at hno'
    obtain⟨⟨d1,d2⟩,d3⟩:=hno'
    cases c1:(x.back== -1)with
    |true=>
     (have hb:=trivial;with_reducible repeat' (first|simp only[hb,Vb.down,seval,Jl.down,d1,d2,c1,h0,h9,h10,h11,hd,hx,hw,hii,hbk,Aa.cells,Ag.cells,e1,e2,e4,e5,a1,a3,a5,hct,hroom,hse,iv,Dt,aaS,aaW,aa6,hln,hc1,hc2,Ek,Bt,abB,Sr]|refine Af ?_ ?_<;>intro hb|refine fd ?_|fail))
     (refine Ah (kJ _ _ (Ht x G',O',R,i+1) ⟨?_,?_,?_,?_,⟨wr,true,g++[.live 5 true true [x.cells]],ov,rv,by simp[Ht,Aa.cells],by rw[Ep,hqg];rfl,(fun h=>by cases h),hwr,by rw[Gv];exact hG',by dsimp only;omega,by dsimp only;omega,rfl,hown.app _,hrow.app _,hsp,⟨hx1,hx2,hx3.app _⟩⟩⟩ ?_);(simp[up,h0]);(simp[up,h9]);(simp[up,h10]);(simp[up]);(simp[Am,hbk,hno,c1]))
    |false=>
     have d4:decide ((50:Int)≤(O'.length:Int))=false:=by rw[c1]at d3;simpa using d3
     have hown':=hown
     rcases hown with⟨hO0,rfl⟩|⟨b,wo,rfl,hgb⟩
     ·obtain rfl:O'=[]:=abO.1 hO0
      have d5:decide ((50:Int)≤0)=false:=rfl
      have hno0:Hq s.cons x G' 0=false:=hno
      (have hb:=trivial;with_reducible repeat' (first|simp only[hb,Vb.down,seval,Jl.down,d1,d2,c1,d4,d5,abY,aeP,h0,h9,h10,h11,hd,hx,hw,hii,hbk,Aa.cells,Ag.cells,e1,e2,e4,e5,a1,a3,a5,hct,hroom,hse,iv,Dt,aaS,aaW,aa6,hln,hc2,Ek,Bt,abB,Sr]|refine Af ?_ ?_<;>intro hb|refine fd ?_|fail))
      (refine Ah (kJ _ _ (Ht x G',[]++[x],R,i+1) ⟨?_,?_,?_,?_,⟨true,true,_,_,rv,rfl,by rw[Ep,hqg];rfl,(fun h=>by cases h),(fun h=>by cases h),by rw[Gv];exact hG',by simp;omega,by dsimp only;omega,rfl,Do.blk (b:=g.length+2) (w:=false) (by simp[Aa.cells]) (by omega) (by simp),hrow.app _,(hrow.sep (by omega)).symm,absurd rfl hx1⟩⟩ ?_);(simp[up,h0]);(simp[up,h9]);(simp[up,h10]);(simp[up]);(simp[Am,hbk,hno0,c1]))
     ·have hbl:b<g.length:=(aeH.1 hgb).1
      have hA:=Av hgb
      have hS:=Fa hbl
      have hi39:(O'.length+1≤549755813888)=True:=eq_true (by omega)
      have hrk:=hrow.kl hown' hsp
      simp only[kl,aeW]at hrk
      simp only[aaS]at hroom
      (have hb:=trivial;with_reducible repeat' (first|simp only[hb,Vb.down,seval,Jl.down,d1,d2,c1,d4,hA,hS,Lr,Ge,aeM,hi39,h0,h9,h10,h11,hd,hx,hw,hii,hbk,Aa.cells,Ag.cells,e1,e2,e4,e5,a1,a3,a5,hct,hroom,hse,iv,Dt,aaS,aaW,aa6,hln,hc2,Ek,Bt,abB,Sr]|refine Af ?_ ?_<;>intro hb|refine fd ?_|fail))
      (refine Ah (kJ _ _ (Ht x G',O'++[x],R,i+1) ⟨?_,?_,?_,?_,⟨true,true,_,_,rv,rfl,by rw[Ep,dH hqg b];rfl,(fun h=>by cases h),(fun h=>by cases h),by rw[Gv];exact hG',by simp;omega,by dsimp only;omega,rfl,Do.blk (b:=g.length+2) (w:=false) (by rw[Ge];simp[Aa.cells]) (by omega) (by simp),hrk.app _,(hrow.sep (by omega)).symm,⟨by simp,hx2,(hx3.dead hbl).app _⟩⟩⟩ ?_);(simp[up,h0]);(simp[up,h9]);(simp[up,h10]);(simp[up]);(simp[Am,hbk,hno,c1]))
 ·exact⟨by simp[up,Bw],by simp[up,Bw],by simp[up,Bw],by simp[up],⟨_,_,_,_,_,rfl,rfl,fun _=>rfl,fun _=>⟨rfl,rfl⟩,rfl,by simp,by simp,rfl,Do.blk (b:=0) rfl rfl (by simp),.inl ⟨rfl,rfl⟩,jZ.nils _,⟨by simp,fun _=>rfl,.inr ⟨_,rfl,rfl,rfl⟩⟩⟩⟩
 ·obtain⟨rfl,wr,wG,g,ov,rv,rfl,hqg,hwG,hwr,hown,hrow,hsp,⟨hx1,hx2,hx3⟩⟩:=hk
  generalize hr0:Am s.cons hr d.trades 0 (G,O,[])=r at *
  obtain⟨G',O',R⟩:=r
  dsimp only at *
  rcases hown with⟨hO0,rfl⟩|⟨b,wo,rfl,hgb⟩
  ·exact absurd rfl hx1
  by_cases hb0:b=0
  ·subst hb0
   have hOO:O'=O:=by
    rcases hx3 with h|⟨w',_,_,h⟩
    ·rw[hgb]at h;cases h
    ·exact h
   rcases hrow with⟨hR0,rfl⟩|⟨b2,wR,rfl,hgr⟩
   ·(have hb:=trivial;with_reducible repeat' (first|simp only[hb,Vb.down,seval,Jl.down,aaS,hgb,Nat.zero_add]|refine Af ?_ ?_<;>intro hb|refine fd ?_|fail))
    exact⟨wr,wG,wo,false,.slr 5 3 0 O'.length,.nils,_,fun _ _ _ e=>by cases e;exact⟨hwG,(fun h=>by have q:=hwr h;first|(simp;done)|(simp at q ⊢ <;>first|exact q|omega)),rfl,.inl ⟨abO.1 hR0,hOO,rfl,rfl,rfl⟩⟩⟩
   ·have hne:(b2=0)=False:=eq_false fun e=>hsp _ _ _ _ _ _ _ _ rfl rfl (by omega)
    (have hb:=trivial;with_reducible repeat' (first|simp only[hb,Vb.down,seval,Jl.down,aaS,hgb,hgr,hne,Nat.zero_add]|refine Af ?_ ?_<;>intro hb|refine fd ?_|fail))
    exact⟨wr,wG,wo,wR,.slr 5 3 0 O'.length,.slr 1 4 0 R.length,_,fun _ _ _ e=>by cases e;exact⟨hwG,(fun h=>by have q:=hwr h;first|(simp;done)|(simp at q ⊢ <;>first|exact q|omega)),rfl,.inr (.inl ⟨fun h=>(by cases hx2 h),hOO,rfl,rfl,rfl⟩)⟩⟩
  ·have hgd:g[0]?=some .dead:=by
    rcases hx3 with h|⟨w',_,h,_⟩
    ·exact h
    ·simp only[AV.slr.injEq]at h;omega
   have hbf:(b=0)=False:=eq_false hb0
   rcases hrow with⟨hR0,rfl⟩|⟨b2,wR,rfl,hgr⟩
   ·(have hb:=trivial;with_reducible repeat' (first|simp only[hb,Vb.down,seval,Jl.down,aaS,hgb,hgd,hbf]|refine Af ?_ ?_<;>intro hb|refine fd ?_|fail))
    exact⟨wr,wG,wo,false,.slr 5 4 0 O'.length,.nils,_,fun _ _ _ e=>by cases e;exact⟨hwG,(fun h=>by have q:=hwr h;first|(simp;done)|(simp at q ⊢ <;>first|exact q|omega)),rfl,.inr (.inr (.inl ⟨abO.1 hR0,rfl,rfl,rfl⟩))⟩⟩
   ·have hne:(b=b2)=False:=eq_false fun e=>hsp _ _ _ _ _ _ _ _ rfl rfl (by omega)
    have hne':(b2=b)=False:=eq_false fun e=>hsp _ _ _ _ _ _ _ _ rfl rfl (by omega)
    have hne2:(b2=0)=False:=eq_false fun e=>by subst e;rw[hgd]at hgr;cases hgr
    (have hb:=trivial;with_reducible repeat' (first|simp only[hb,Vb.down,seval,Jl.down,aaS,hgb,hgr,hgd,hbf,hne,hne',hne2]|refine Af ?_ ?_<;>intro hb|refine fd ?_|fail))
    exact⟨wr,wG,wo,wR,.slr 5 4 0 O'.length,.slr 1 5 0 R.length,_,fun _ _ _ e=>by cases e;exact⟨hwG,(fun h=>by have q:=hwr h;first|(simp;done)|(simp at q ⊢ <;>first|exact q|omega)),rfl,.inr (.inr (.inr ⟨fun h=>(by cases hx2 h),rfl,rfl,rfl⟩))⟩⟩
theorem acP{s:Ac}{d:Ap}{w w1 w2 w3 w4 w5:Bool}{hr own fuel:Int}{G L W R:List Int}{O:List Aa}{x:Bc}(hW:W.length=s.cons.length)(hl:W.length≤1000)(hne:W≠[])(h0:0≤hr)(hx:d.hours[hr.toNat]?=some x):
 Ql Bi 107 [.ptr 0 0 0] [.live 19 false w [(rc s d hr (.slr 1 1 0 G.length) own fuel (.slr 1 2 0 L.length) .nils (.slr 1 3 0 W.length) .nils .nils .nils)],.live 1 true w1 (G.map iv),.live 1 true w2 (L.map iv),.live 1 true w4 (W.map iv)]
  fun o h'=>o=.ret (.tup [])∧h'=[.live 19 false true [(rc s d hr (.slr 1 1 0 G.length) own fuel (.slr 1 2 0 L.length) .nils (.slr 1 3 0 W.length) (.slr 1 4 0 W.length) .nils .nils)],.live 1 true w1 (G.map iv),.live 1 true w2 (L.map iv),.live 1 true w4 (W.map iv),.live 1 true false ((Eu Hg s.cons W x.inn x.out).map iv)]:=by
 have g1:=jW (nn:=true) (most:=x.inn) (least:=x.out) hW hl hne
 rw[An]at g1
 have htk:(W.map iv).take W.length=W.map iv:=aa0 (by simp)
 have h39:(W.length≤549755813888)=True:=eq_true (by omega)
 have hh:∀tl:Ab,Bi.call (.sh 133) [.ptr 0 0 0] (.live 19 false false [(rc s d hr (.slr 1 1 0 G.length) own fuel (.slr 1 2 0 L.length) .nils (.slr 1 3 0 W.length) .nils .nils .nils)]::tl)=some (.ret (.agg x.cells),.live 19 false false [(rc s d hr (.slr 1 1 0 G.length) own fuel (.slr 1 2 0 L.length) .nils (.slr 1 3 0 W.length) .nils .nils .nils)]::tl++[.live 4 true true [x.cells]]):=fun tl=>Yp (b:=0) rfl h0 hx
 refine Je rfl Tryz.func107 rfl rfl ?_
 simp only[Tryz.f107]
 (have hb:=trivial;with_reducible repeat' (first|simp only[hb,Vb.down,seval,uH.down,aaS,hh,Bc.cells,g1,htk,h39]|refine Af ?_ ?_<;>intro hb|refine fd ?_|fail))
theorem ad1{s:Ac}{d:Ap}{w w1 w2 w3 w4 w5:Bool}{hr own fuel:Int}{G L W R:List Int}{O:List Aa}{x:Bc}(hW:W.length=s.cons.length)(hl:W.length≤1000)(hne:W≠[])(h0:0≤hr)(hx:d.hours[hr.toNat]?=some x):
 Ql Bi 107 [.ptr 0 0 0] [.live 19 false w [(rc s d hr (.slr 1 1 0 G.length) own fuel (.slr 1 2 0 L.length) (.slr 5 3 0 O.length) (.slr 1 4 0 W.length) .nils .nils .nils)],.live 1 true w1 (G.map iv),.live 1 true w2 (L.map iv),.live 5 true w3 (O.map Aa.cells),.live 1 true w4 (W.map iv)]
  fun o h'=>o=.ret (.tup [])∧h'=[.live 19 false true [(rc s d hr (.slr 1 1 0 G.length) own fuel (.slr 1 2 0 L.length) (.slr 5 3 0 O.length) (.slr 1 4 0 W.length) (.slr 1 5 0 W.length) .nils .nils)],.live 1 true w1 (G.map iv),.live 1 true w2 (L.map iv),.live 5 true w3 (O.map Aa.cells),.live 1 true w4 (W.map iv),.live 1 true false ((Eu Hg s.cons W x.inn x.out).map iv)]:=by
 have g1:=jW (nn:=true) (most:=x.inn) (least:=x.out) hW hl hne
 rw[An]at g1
 have htk:(W.map iv).take W.length=W.map iv:=aa0 (by simp)
 have h39:(W.length≤549755813888)=True:=eq_true (by omega)
 have hh:∀tl:Ab,Bi.call (.sh 133) [.ptr 0 0 0] (.live 19 false false [(rc s d hr (.slr 1 1 0 G.length) own fuel (.slr 1 2 0 L.length) (.slr 5 3 0 O.length) (.slr 1 4 0 W.length) .nils .nils .nils)]::tl)=some (.ret (.agg x.cells),.live 19 false false [(rc s d hr (.slr 1 1 0 G.length) own fuel (.slr 1 2 0 L.length) (.slr 5 3 0 O.length) (.slr 1 4 0 W.length) .nils .nils .nils)]::tl++[.live 4 true true [x.cells]]):=fun tl=>Yp (b:=0) rfl h0 hx
 refine Je rfl Tryz.func107 rfl rfl ?_
 simp only[Tryz.f107]
 (have hb:=trivial;with_reducible repeat' (first|simp only[hb,Vb.down,seval,uH.down,aaS,hh,Bc.cells,g1,htk,h39]|refine Af ?_ ?_<;>intro hb|refine fd ?_|fail))
theorem acW{s:Ac}{d:Ap}{w w1 w2 w3 w4 w5:Bool}{hr own fuel:Int}{G L W R:List Int}{O:List Aa}{x:Bc}(hW:W.length=s.cons.length)(hl:W.length≤1000)(hne:W≠[])(h0:0≤hr)(hx:d.hours[hr.toNat]?=some x):
 Ql Bi 107 [.ptr 0 0 0] [.live 19 false w [(rc s d hr (.slr 1 1 0 G.length) own fuel (.slr 1 2 0 L.length) .nils (.slr 1 3 0 W.length) .nils .nils (.slr 1 4 0 R.length))],.live 1 true w1 (G.map iv),.live 1 true w2 (L.map iv),.live 1 true w4 (W.map iv),.live 1 true w5 (R.map iv)]
  fun o h'=>o=.ret (.tup [])∧h'=[.live 19 false true [(rc s d hr (.slr 1 1 0 G.length) own fuel (.slr 1 2 0 L.length) .nils (.slr 1 3 0 W.length) (.slr 1 5 0 W.length) .nils (.slr 1 4 0 R.length))],.live 1 true w1 (G.map iv),.live 1 true w2 (L.map iv),.live 1 true w4 (W.map iv),.live 1 true w5 (R.map iv),.live 1 true false ((Eu Hg s.cons W x.inn x.out).map iv)]:=by
 have g1:=jW (nn:=true) (most:=x.inn) (least:=x.out) hW hl hne
 rw[An]at g1
 have htk:(W.map iv).take W.length=W.map iv:=aa0 (by simp)
 have h39:(W.length≤549755813888)=True:=eq_true (by omega)
 have hh:∀tl:Ab,Bi.call (.sh 133) [.ptr 0 0 0] (.live 19 false false [(rc s d hr (.slr 1 1 0 G.length) own fuel (.slr 1 2 0 L.length) .nils (.slr 1 3 0 W.length) .nils .nils (.slr 1 4 0 R.length))]::tl)=some (.ret (.agg x.cells),.live 19 false false [(rc s d hr (.slr 1 1 0 G.length) own fuel (.slr 1 2 0 L.length) .nils (.slr 1 3 0 W.length) .nils .nils (.slr 1 4 0 R.length))]::tl++[.live 4 true true [x.cells]]):=fun tl=>Yp (b:=0) rfl h0 hx
 refine Je rfl Tryz.func107 rfl rfl ?_
 simp only[Tryz.f107]
 (have hb:=trivial;with_reducible repeat' (first|simp only[hb,Vb.down,seval,uH.down,aaS,hh,Bc.cells,g1,htk,h39]|refine Af ?_ ?_<;>intro hb|refine fd ?_|fail))
theorem ab6{s:Ac}{d:Ap}{w w1 w2 w3 w4 w5:Bool}{hr own fuel:Int}{G L W R:List Int}{O:List Aa}{x:Bc}(hW:W.length=s.cons.length)(hl:W.length≤1000)(hne:W≠[])(h0:0≤hr)(hx:d.hours[hr.toNat]?=some x):
 Ql Bi 107 [.ptr 0 0 0] [.live 19 false w [(rc s d hr (.slr 1 1 0 G.length) own fuel (.slr 1 2 0 L.length) (.slr 5 3 0 O.length) (.slr 1 4 0 W.length) .nils .nils (.slr 1 5 0 R.length))],.live 1 true w1 (G.map iv),.live 1 true w2 (L.map iv),.live 5 true w3 (O.map Aa.cells),.live 1 true w4 (W.map iv),.live 1 true w5 (R.map iv)]
  fun o h'=>o=.ret (.tup [])∧h'=[.live 19 false true [(rc s d hr (.slr 1 1 0 G.length) own fuel (.slr 1 2 0 L.length) (.slr 5 3 0 O.length) (.slr 1 4 0 W.length) (.slr 1 6 0 W.length) .nils (.slr 1 5 0 R.length))],.live 1 true w1 (G.map iv),.live 1 true w2 (L.map iv),.live 5 true w3 (O.map Aa.cells),.live 1 true w4 (W.map iv),.live 1 true w5 (R.map iv),.live 1 true false ((Eu Hg s.cons W x.inn x.out).map iv)]:=by
 have g1:=jW (nn:=true) (most:=x.inn) (least:=x.out) hW hl hne
 rw[An]at g1
 have htk:(W.map iv).take W.length=W.map iv:=aa0 (by simp)
 have h39:(W.length≤549755813888)=True:=eq_true (by omega)
 have hh:∀tl:Ab,Bi.call (.sh 133) [.ptr 0 0 0] (.live 19 false false [(rc s d hr (.slr 1 1 0 G.length) own fuel (.slr 1 2 0 L.length) (.slr 5 3 0 O.length) (.slr 1 4 0 W.length) .nils .nils (.slr 1 5 0 R.length))]::tl)=some (.ret (.agg x.cells),.live 19 false false [(rc s d hr (.slr 1 1 0 G.length) own fuel (.slr 1 2 0 L.length) (.slr 5 3 0 O.length) (.slr 1 4 0 W.length) .nils .nils (.slr 1 5 0 R.length))]::tl++[.live 4 true true [x.cells]]):=fun tl=>Yp (b:=0) rfl h0 hx
 refine Je rfl Tryz.func107 rfl rfl ?_
 simp only[Tryz.f107]
 (have hb:=trivial;with_reducible repeat' (first|simp only[hb,Vb.down,seval,uH.down,aaS,hh,Bc.cells,g1,htk,h39]|refine Af ?_ ?_<;>intro hb|refine fd ?_|fail))
end Go.Proofs.YtdbiogihimdpcaaGreatDoor
