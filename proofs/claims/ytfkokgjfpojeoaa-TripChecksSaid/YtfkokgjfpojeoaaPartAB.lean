/- The functions of the layer, walked. -/
import Derived.Test.YtfkokgjfpojeoaaPartAA
import Derived.Test.YtfkokgjfpojeoaaLibD
open List renaming length_map→aaC,mem_of_getElem?→aaW,mem_cons→abM,getElem?_eq_some_iff→ab6,all_cons→ab8,not_mem_nil→acT,all_eq_true→acZ,length_set→ae4,length_eq_zero_iff→afB,all_eq_not_any_not→aiI,getElem?_eq_getElem→aiV,getElem?_set_self→al7,getElem?_eq_none→amC
open Int renaming lt_irrefl→aaD,reduceBEq→agI,natCast_zero→akF
open Bool renaming and_eq_true→aa5,true_and→abW,false_and→ab9,not_true→afC,not_false→afP,eq_false_iff→ag9,not_eq_eq_eq_not→ak9,and_false→al4
open Option renaming bind_eq_some_iff→acB,map_eq_some_iff→acM
set_option linter.unusedSimpArgs false
set_option linter.unusedVariables false
namespace Go.Proofs.Ytfkokgjfpojeoaa
open Go.Ev Go
set_option maxRecDepth 100000
set_option maxHeartbeats 16000000
def aiL(m:aa3)(l:List Int):Bool:=((l.length:Int)==(m.sens.length:Int))&&l.all akN
theorem awX(m:aa3){l:List Int}{nn:Bool}(hl:l.length≤maxLen):om'.call (.fn 62) [.agg [slv 3 true m.nS (m.sens.map aaZ.cells),slv 4 false m.nV (m.votes.map aaL.cells),slv 5 false m.nM (m.moves.map aaM.cells),.int .i64 m.states,.int .i64 m.cmds,.int .i64 m.bgn,slv 1 true m.nO (m.opn.map iv)],slv 1 true nn (l.map iv)] []=some (.ret (.bool (aiL m l)),[]):=by
 have hc:=aoO (l:=l) (nn:=nn) (g:=82) (cap:=[]) (p:=fun x=> !akN x) rfl rfl (fun x _=>aBA x) hl
 have q2:l.all akN= !(l.any fun x=> !akN x):=aiI
 (refine ce Try.func62 ?_;simp only[Try.f62];(have hb:=trivial;with_reducible repeat' (first|simp only[hb,Vc.down,seval,aKC.down,aaC,hc]|refine fsp ?_ ?_<;>intro hb|refine fd ?_|fail)))
 all_goals simp only[aiL,q2,hb,abW,ab9]
theorem asS(m:aa3){l:List Int}{nn:Bool}(hl:l.length≤maxLen):om'.call (.fn 24) [.agg [slv 3 true m.nS (m.sens.map aaZ.cells),slv 4 false m.nV (m.votes.map aaL.cells),slv 5 false m.nM (m.moves.map aaM.cells),.int .i64 m.states,.int .i64 m.cmds,.int .i64 m.bgn,slv 1 true m.nO (m.opn.map iv)],slv 1 true nn (l.map iv)] []=some (.ret (.bool (aiL m l)),[]):=by
 (refine ce Try.func24 ?_;simp only[Try.f24];(have hb:=trivial;with_reducible repeat' (first|simp only[hb,Vc.down,seval,awN.down,aaC]|refine fsp ?_ ?_<;>intro hb|refine fd ?_|fail)))
 refine ac3 (lst 24 l (fun i (zz:Unit) t h=>t 1=slv 1 true nn (l.map iv)∧t 2=.ptr 0 0 0∧t 5=.int .i64 i∧(h[0]?=some (.live 7 false false [[slv 3 true m.nS (m.sens.map aaZ.cells),slv 4 false m.nV (m.votes.map aaL.cells),slv 5 false m.nM (m.moves.map aaM.cells),.int .i64 m.states,.int .i64 m.cmds,.int .i64 m.bgn,slv 1 true m.nO (m.opn.map iv)]]))) (fun rest zz=>rest.all akN) (fun r e t h=>(if r=true then e=.exit 0∧t 1=slv 1 true nn (l.map iv)∧t 2=.ptr 0 0 0∧h[0]?=some (.live 7 false false [[slv 3 true m.nS (m.sens.map aaZ.cells),slv 4 false m.nV (m.votes.map aaL.cells),slv 5 false m.nM (m.moves.map aaM.cells),.int .i64 m.states,.int .i64 m.cmds,.int .i64 m.bgn,slv 1 true m.nO (m.opn.map iv)]])else e=.ret∧t 4=.bool false)) ?_ ?_ () _ _ ?_) (fun e t h hk=>?_)
 ·rintro _ t h Q' kQ ⟨h1,h2,h5,hA⟩
  (have hb:=trivial;with_reducible repeat' (first|simp only[hb,Vc.down,seval,awN.down,h1,h2,h5,aaD,decide_false,aaC]|refine fsp ?_ ?_<;>intro hb|refine fd ?_|fail))
  exact kQ _ _ _ (by rw[if_pos (by rfl)];exact⟨rfl,by simp[up,h1],by simp[up,h2],hA⟩)
 ·rintro x rest i _ t h J Q' kJ kQ hx hi ⟨h1,h2,h5,hA⟩
  have hd:decide ((i:Int)<(l.length:Int))=true:=decide_eq_true (by omega)
  have hw:=aaR hi hl
  have hv:inB x (-10000) 10000=akN x:=rfl
  (have hb:=trivial;with_reducible repeat' (first|simp only[hb,Vc.down,seval,awN.down,h1,h2,h5,hd,hx,hw,an4,hv,iv,aaC]|refine fsp ?_ ?_<;>intro hb|refine fd ?_|fail))
  all_goals first
   |exact kQ _ _ _ (by rw[if_neg (by simp_all)];exact⟨rfl,by simp[up]⟩)
   |(refine abE (kJ _ _ () ⟨?_,?_,?_,hA⟩ ?_);(simp[up,h1]);(simp[up,h2]);(simp[up]);(simp_all))
 ·exact⟨by simp[up,ent],by simp[up,ent],by simp[up],rfl⟩
 split at hk
 ·obtain⟨rfl,h1,h2,hA⟩:=hk
  rename_i hr1
  have hA1:=aa0 hA
  (have hb:=trivial;with_reducible repeat' (first|simp only[hb,Vc.down,seval,awN.down,h1,h2,hA,hA1,aaC]|refine fsp ?_ ?_<;>intro hb|refine fd ?_|fail))
  all_goals simp[aiL,hr1]
 ·obtain⟨rfl,h2⟩:=hk
  rename_i hr1
  (have hb:=trivial;with_reducible repeat' (first|simp only[hb,Vc.down,seval,awN.down,h2]|refine fsp ?_ ?_<;>intro hb|refine fd ?_|fail))
  all_goals simp[aiL,ag9.2 hr1]
def sAt(m:aa3)(k:Int):aaZ:=m.sens.getD k.toNat ⟨0,0,false⟩
def rAt(l:List Int)(k:Int):Int:=l.getD k.toNat 0
theorem auH{m:aa3}{k:Int}(h:k.toNat<m.sens.length):m.sens[k.toNat]?=some (sAt m k):=by
 simp[sAt,List.getD,aiV h]
theorem atK{l:List Int}{k:Int}(h:k.toNat<l.length):l[k.toNat]?=some (rAt l k):=by
 simp[rAt,List.getD,aiV h]
def apP(m:aa3)(v:aaL)(l:List Int):List Int→Int→Int
 | [],c=>c
 |k::ks,c=>apP m v l ks (if alR (sAt m k) v (rAt l k)=true then IntKind.i64.wrap (c+1)else c)
def ajH(m:aa3)(l:List Int)(v:aaL):Bool:=decide (v.need≤apP m v l v.sens 0)
def Idx(m:aa3)(l:List Int):Prop:=∀k∈l,0≤k∧k.toNat<m.sens.length
theorem auJ{n:Nat}(hn:n≤6):∀{l:List Int} {p:Option Int},ag6 n l p=true→∀k∈l,0≤k∧k.toNat<n
 | [],_,_,k,h=>by cases h
 |x::l,p,h,k,hk=>by
  simp only[ag6,aa5]at h
  rcases abM.1 hk with rfl|hk
  ·have:=h.1.1
   rw[amA (by omega) (by omega)]at this
   simp[inB]at this
   omega
  ·exact auJ hn h.2 k hk
theorem arD{m:aa3}(h:ac6 m=true):∀v∈m.votes,Idx m v.sens:=fun v hv=>by
 simp only[ac6,aj3,aa5,decide_eq_true_eq,acZ]at h
 have h2:=h.1.1.2 v hv
 simp only[akA,aa5]at h2
 exact auJ h.1.1.1.1.1.1.1.1.1.1 h2.1.1
theorem aFF(m:aa3)(v:aaL)(k r:Int)(h0:0≤k)(hk:k.toNat<m.sens.length):om'.call (.fn 81) [.agg [slv 3 true m.nS (m.sens.map aaZ.cells),slv 4 false m.nV (m.votes.map aaL.cells),slv 5 false m.nM (m.moves.map aaM.cells),.int .i64 m.states,.int .i64 m.cmds,.int .i64 m.bgn,slv 1 true m.nO (m.opn.map iv)],.agg [slv 1 true v.nn (v.sens.map iv),.int .i64 v.need,.int .i64 v.level,.bool v.above],.int .i64 k,.int .i64 r] []=some (.ret (.bool (alR (sAt m k) v r)),[]):=by
 have hs:=auH hk
 have h0':(0≤k)=True:=eq_true h0
 have e:alR (sAt m k) v r=(!(sAt m k).byp&&((decide (r<(sAt m k).lo)||decide ((sAt m k).hi<r))||((v.above&&decide (v.level≤r))||(!v.above&&decide (r≤v.level))))):=by
  have q:(!inB r (sAt m k).lo (sAt m k).hi)=(decide (r<(sAt m k).lo)||decide ((sAt m k).hi<r)):=by rw[Bool.eq_iff_iff];simp[inB]<;>try omega
  unfold alR
  rw[q]
  cases v.above<;>simp
 rw[e]
 generalize sAt m k=s at hs
 (refine ce Try.func81 ?_;simp only[Try.f81];(have hb:=trivial;with_reducible repeat' (first|simp only[hb,Vc.down,seval,aKT.down,hs,h0',aaZ.cells]|refine fsp ?_ ?_<;>intro hb|refine fd ?_|fail)))
 all_goals simp_all
theorem aID(m:aa3)(v:aaL){l:List Int}{nn:Bool}(hl:l.length=m.sens.length)(hv:v.sens.length≤maxLen)(hi:Idx m v.sens):om'.call (.fn 60) [.agg [slv 3 true m.nS (m.sens.map aaZ.cells),slv 4 false m.nV (m.votes.map aaL.cells),slv 5 false m.nM (m.moves.map aaM.cells),.int .i64 m.states,.int .i64 m.cmds,.int .i64 m.bgn,slv 1 true m.nO (m.opn.map iv)],.agg [slv 1 true v.nn (v.sens.map iv),.int .i64 v.need,.int .i64 v.level,.bool v.above],slv 1 true nn (l.map iv)] []=some (.ret (.bool (ajH m l v)),[]):=by
 have hI:=hi
 clear hi
 (refine ce Try.func60 ?_;simp only[Try.f60];(have hb:=trivial;with_reducible repeat' (first|simp only[hb,Vc.down,seval,aCU.down,aaC]|refine fsp ?_ ?_<;>intro hb|refine fd ?_|fail)))
 refine ac3 (lst 38 v.sens (fun i (zz:Int) t h=>t 2=slv 1 true nn (l.map iv)∧t 3=.ptr 0 0 0∧t 4=.ptr 1 0 0∧t 8=.int .i64 i∧t 7=.int .i64 zz∧(h=[.live 7 false false [[slv 3 true m.nS (m.sens.map aaZ.cells),slv 4 false m.nV (m.votes.map aaL.cells),slv 5 false m.nM (m.moves.map aaM.cells),.int .i64 m.states,.int .i64 m.cmds,.int .i64 m.bgn,slv 1 true m.nO (m.opn.map iv)]],.live 4 false false [[slv 1 true v.nn (v.sens.map iv),.int .i64 v.need,.int .i64 v.level,.bool v.above]]])) (fun rest zz=>apP m v l rest zz) (fun r e t h=>e=.exit 0∧t 4=.ptr 1 0 0∧t 7=.int .i64 r∧h=[.live 7 false false [[slv 3 true m.nS (m.sens.map aaZ.cells),slv 4 false m.nV (m.votes.map aaL.cells),slv 5 false m.nM (m.moves.map aaM.cells),.int .i64 m.states,.int .i64 m.cmds,.int .i64 m.bgn,slv 1 true m.nO (m.opn.map iv)]],.live 4 false false [[slv 1 true v.nn (v.sens.map iv),.int .i64 v.need,.int .i64 v.level,.bool v.above]]]) ?_ ?_ (0) _ _ ?_) (fun e t h hk=>?_)
 ·rintro c t h Q' kQ ⟨h2,h3,h4,h8,h7,rfl⟩
  (have hb:=trivial;with_reducible repeat' (first|simp only[hb,Vc.down,seval,aCU.down,h2,h3,h4,h8,h7,aaD,decide_false,aaC]|refine fsp ?_ ?_<;>intro hb|refine fd ?_|fail))
  exact kQ _ _ _ ⟨rfl,by simp[up,h4],by simp[up,h7,apP],rfl⟩
 ·rintro x rest i c t h J Q' kJ kQ hx hi ⟨h2,h3,h4,h8,h7,rfl⟩
  have hd:decide ((i:Int)<(v.sens.length:Int))=true:=decide_eq_true (by omega)
  have hw:=aaR hi hv
  obtain⟨k0,k1⟩:=hI x (aaW hx)
  have hrr:=atK (l:=l) (k:=x) (by omega)
  have h0':(0≤x)=True:=eq_true k0
  have hS:=aFF m v x (rAt l x) k0 k1
  generalize hq:alR (sAt m x) v (rAt l x)=q at hS
  (have hb:=trivial;with_reducible repeat' (first|simp only[hb,Vc.down,seval,aCU.down,h2,h3,h4,h7,h8,hd,hx,hw,hrr,h0',hS,iv,aaC]|refine fsp ?_ ?_<;>intro hb|refine fd ?_|fail))
  all_goals (refine abE (kJ _ _ (if q=true then IntKind.i64.wrap (c+1)else c) ⟨?_,?_,?_,?_,?_,rfl⟩ ?_);(simp[up,h2]);(simp[up,h3]);(simp[up,h4]);(simp[up]);(simp[up,h7,hb]);(simp[apP,hq]))
 ·exact⟨by simp[up,ent],by simp[up,ent],by simp[up,ent],by simp[up],by simp[up,ent],rfl⟩
 obtain⟨rfl,h4,h7,rfl⟩:=hk
 (have hb:=trivial;with_reducible repeat' (first|simp only[hb,Vc.down,seval,aCU.down,h4,h7]|refine fsp ?_ ?_<;>intro hb|refine fd ?_|fail))
 rfl
def orN(a b:Int):Int:=IntKind.i64.wrap ((BitVec.ofInt 64 a|||BitVec.ofInt 64 b).toNat:Int)
theorem aHB(ty:TypeId)(a b:Int):ad4 Try.prog .or ty (.int .i64 a) (.int .i64 b)=some (.int .i64 (orN a b)):=by
 show(if IntKind.i64=IntKind.i64 then adI .or .i64 a b else none)=_
 rw[if_pos rfl];rfl
def aiJ(m:aa3)(l:List Int):List aaL→Nat→Int→Int
 | [],_,b=>b
 |v::vs,i,b=>aiJ m l vs (i+1) (if ajH m l v=true then orN b (azR i)else b)
theorem atY(m:aa3){l:List Int}{nn:Bool}(hl:l.length=m.sens.length)(hs:m.small)(hi:∀v∈m.votes,Idx m v.sens):om'.call (.fn 46) [.agg [slv 3 true m.nS (m.sens.map aaZ.cells),slv 4 false m.nV (m.votes.map aaL.cells),slv 5 false m.nM (m.moves.map aaM.cells),.int .i64 m.states,.int .i64 m.cmds,.int .i64 m.bgn,slv 1 true m.nO (m.opn.map iv)],slv 1 true nn (l.map iv)] []=some (.ret (.int .i64 (aiJ m l m.votes 0 0)),[]):=by
 have hI:=hi
 clear hi
 (refine ce Try.func46 ?_;simp only[Try.f46];(have hb:=trivial;with_reducible repeat' (first|simp only[hb,Vc.down,seval,asM.down,aaC]|refine fsp ?_ ?_<;>intro hb|refine fd ?_|fail)))
 refine ac3 (lst 50 m.votes (fun i (zz:Nat × Int) t h=>t 1=slv 1 true nn (l.map iv)∧t 2=.ptr 0 0 0∧t 12=slv 4 false m.nV (m.votes.map aaL.cells)∧t 13=.int .i64 m.votes.length∧t 14=.int .i64 i∧t 5=.int .i64 zz.2∧(h[0]?=some (.live 7 false false [[slv 3 true m.nS (m.sens.map aaZ.cells),slv 4 false m.nV (m.votes.map aaL.cells),slv 5 false m.nM (m.moves.map aaM.cells),.int .i64 m.states,.int .i64 m.cmds,.int .i64 m.bgn,slv 1 true m.nO (m.opn.map iv)]])∧i=zz.1)) (fun rest zz=>aiJ m l rest zz.1 zz.2) (fun r e t h=>e=.exit 0∧t 5=.int .i64 r) ?_ ?_ (0,0) _ _ ?_) (fun e t h hk=>?_)
 ·rintro⟨k,b⟩ t h Q' kQ ⟨h1,h2,h12,h13,h14,h5,⟨hA,rfl⟩⟩
  try dsimp only at *
  (have hb:=trivial;with_reducible repeat' (first|simp only[hb,Vc.down,seval,asM.down,h1,h2,h12,h13,h14,h5,aaD,decide_false]|refine fsp ?_ ?_<;>intro hb|refine fd ?_|fail))
  exact kQ _ _ _ ⟨rfl,by simp[up,h5,aiJ]⟩
 ·rintro x rest i ⟨k,b⟩ t h J Q' kJ kQ hx hi ⟨h1,h2,h12,h13,h14,h5,⟨hA,rfl⟩⟩
  have hd:decide ((i:Int)<(m.votes.length:Int))=true:=decide_eq_true (by omega)
  have hw:=aaR hi hs.votes
  try dsimp only at *
  have hA1:=aa0 hA
  have hvs:=hs.vs x (aaW hx)
  have hIx:=hI x (aaW hx)
  obtain⟨w,rfl⟩:∃w,w=x:=⟨_,rfl⟩
  obtain⟨k,rfl⟩:∃k,k=i:=⟨_,rfl⟩
  obtain⟨hL,hLe⟩:∃hL,hL=h.length:=⟨_,rfl⟩
  (have hb:=trivial;with_reducible repeat' (first|simp only[hb,Vc.down,seval,asM.down,h1,h2,h12,h13,h14,h5,hd,hx,hw,hA1,aaL.cells,aaC]|refine fsp ?_ ?_<;>intro hb|refine fd ?_|fail))
  refine ac3 (lst 50 w.sens (fun i (zz:Int) t h=>t 1=slv 1 true nn (l.map iv)∧t 2=.ptr 0 0 0∧t 12=slv 4 false m.nV (m.votes.map aaL.cells)∧t 13=.int .i64 m.votes.length∧t 14=.int .i64 (k:Int)∧t 5=.int .i64 b∧t 6=.int .i64 (k:Int)∧t 7=.ptr hL 0 0∧t 20=slv 1 true w.nn (w.sens.map iv)∧t 21=.int .i64 w.sens.length∧t 22=.int .i64 i∧t 8=.int .i64 zz∧(h[0]?=some (.live 7 false false [[slv 3 true m.nS (m.sens.map aaZ.cells),slv 4 false m.nV (m.votes.map aaL.cells),slv 5 false m.nM (m.moves.map aaM.cells),.int .i64 m.states,.int .i64 m.cmds,.int .i64 m.bgn,slv 1 true m.nO (m.opn.map iv)]])∧∃wf,h[hL]?=some (.live 4 false wf [[slv 1 true w.nn (w.sens.map iv),.int .i64 w.need,.int .i64 w.level,.bool w.above]]))) (fun rest zz=>apP m w l rest zz) (fun r e t h=>e=.exit 2∧t 1=slv 1 true nn (l.map iv)∧t 2=.ptr 0 0 0∧t 12=slv 4 false m.nV (m.votes.map aaL.cells)∧t 13=.int .i64 m.votes.length∧t 14=.int .i64 (k:Int)∧t 5=.int .i64 b∧t 6=.int .i64 (k:Int)∧t 7=.ptr hL 0 0∧t 8=.int .i64 r∧h[0]?=some (.live 7 false false [[slv 3 true m.nS (m.sens.map aaZ.cells),slv 4 false m.nV (m.votes.map aaL.cells),slv 5 false m.nM (m.moves.map aaM.cells),.int .i64 m.states,.int .i64 m.cmds,.int .i64 m.bgn,slv 1 true m.nO (m.opn.map iv)]])∧∃wf,h[hL]?=some (.live 4 false wf [[slv 1 true w.nn (w.sens.map iv),.int .i64 w.need,.int .i64 w.level,.bool w.above]])) ?_ ?_ (0) _ _ ?_) (fun e tC hC hk=>?_)
  ·rintro c t h Q' kQ ⟨h1,h2,h12,h13,h14,h5,h6,h7,h20,h21,h22,h8,⟨hA,wf,hB⟩⟩
   (have hb:=trivial;with_reducible repeat' (first|simp only[hb,Vc.down,seval,asM.down,h1,h2,h12,h13,h14,h5,h6,h7,h20,h21,h22,h8,aaD,decide_false]|refine fsp ?_ ?_<;>intro hb|refine fd ?_|fail))
   exact kQ _ _ _ ⟨rfl,by simp[up,h1],by simp[up,h2],by simp[up,h12],by simp[up,h13],by simp[up,h14],by simp[up,h5],by simp[up,h6],by simp[up,h7],by simp[up,h8,apP],hA,wf,hB⟩
  ·rintro x rest i c t h J Q' kJ kQ hx hi ⟨h1,h2,h12,h13,h14,h5,h6,h7,h20,h21,h22,h8,⟨hA,wf,hB⟩⟩
   have hd:decide ((i:Int)<(w.sens.length:Int))=true:=decide_eq_true (by omega)
   have hw:=aaR hi hvs
   obtain⟨k0,k1⟩:=hIx x (aaW hx)
   have hrr:=atK (l:=l) (k:=x) (by omega)
   have hss:=auH k1
   have h0':(0≤x)=True:=eq_true k0
   have hS:=aDU (sAt m x) w (rAt l x)
   generalize hq:alR (sAt m x) w (rAt l x)=q at hS
   generalize sAt m x=s at hss hS
   (have hb:=trivial;with_reducible repeat' (first|simp only[hb,Vc.down,seval,asM.down,h1,h2,h7,h8,h20,h21,h22,hd,hx,hw,hrr,hss,h0',hA,hB,hS,iv,aaZ.cells,aaC]|refine fsp ?_ ?_<;>intro hb|refine fd ?_|fail))
   all_goals (refine abE (kJ _ _ (if q=true then IntKind.i64.wrap (c+1)else c) ⟨?_,?_,?_,?_,?_,?_,?_,?_,?_,?_,?_,?_,⟨hA,wf,hB⟩⟩ ?_);(simp[up,h1]);(simp[up,h2]);(simp[up,h12]);(simp[up,h13]);(simp[up,h14]);(simp[up,h5]);(simp[up,h6]);(simp[up,h7]);(simp[up,h20]);(simp[up,h21]);(simp[up]);(simp[up,h8,hb]);(simp[apP,hq]))
  ·exact⟨by simp[up,ent,h1,h2,h12,h13,h14,h5,hLe],by simp[up,ent,h1,h2,h12,h13,h14,h5,hLe],by simp[up,ent,h1,h2,h12,h13,h14,h5,hLe],by simp[up,ent,h1,h2,h12,h13,h14,h5,hLe],by simp[up,ent,h1,h2,h12,h13,h14,h5,hLe],by simp[up,ent,h1,h2,h12,h13,h14,h5,hLe],by simp[up,ent,h1,h2,h12,h13,h14,h5,hLe],by simp[up,ent,h1,h2,h12,h13,h14,h5,hLe],by simp[up,ent,h1,h2,h12,h13,h14,h5,hLe],by simp[up,ent,h1,h2,h12,h13,h14,h5,hLe],by simp[up],by simp[up,ent,h1,h2,h12,h13,h14,h5,hLe],⟨hA1 _,true,by rw[hLe];simp⟩⟩
  ·obtain⟨rfl,h1,h2,h12,h13,h14,h5,h6,h7,h8,hA,wf,hB⟩:=hk
   have hy:decide (w.need≤apP m w l w.sens 0)=ajH m l w:=rfl
   (have hb:=trivial;with_reducible repeat' (first|simp only[hb,Vc.down,seval,asM.down,h1,h2,h12,h13,h14,h5,h6,h7,h8,hA,hB,hw,hy,aHB]|refine fsp ?_ ?_<;>intro hb|refine fd ?_|fail))
   all_goals (refine abE (kJ _ _ (k+1,(if ajH m l w=true then orN b (azR k)else b)) ⟨?_,?_,?_,?_,?_,?_,⟨hA,rfl⟩⟩ ?_);(simp[up,h1]);(simp[up,h2]);(simp[up,h12]);(simp[up,h13]);(simp[up]);(simp[up,h5,hb]);(simp[aiJ]))
 ·exact⟨by simp[up,ent],by simp[up,ent],by simp[up,ent],by simp[up,ent],by simp[up],by simp[up,ent],⟨rfl,rfl⟩⟩
 obtain⟨rfl,h5⟩:=hk
 (have hb:=trivial;with_reducible repeat' (first|simp only[hb,Vc.down,seval,asM.down,h5]|refine fsp ?_ ?_<;>intro hb|refine fd ?_|fail))
def bv(b:Bool):List AV:=[.bool b]
theorem atQ{h:Rr}{b:Nat}(hb:b<h.length)(l:Rr)(c:CB):(h++l).set b c=h.set b c++l:=List.set_append_left _ _ hb
theorem akE{h:Rr}{b:Nat}(c:CB)(l:Rr)(k:Nat):(h.set b c++l)[h.length+k]?=l[k]?:=by
 have:=apY (h.set b c) l k
 rwa[ae4]at this
theorem atM{h:Rr}{b b':Nat}{x:CB}(c:CB)(hne:b≠b')(hb:h[b']?=some x)(l:Rr):(h.set b c++l)[b']?=some x:=by
 rw[List.getElem?_append_left (by rw[ae4];exact(ab6.1 hb).1),List.getElem?_set_ne hne];exact hb
def auG(v:AV)(i:Nat)(rows:List (List AV))(h:Rr):Prop:=(i=0∧v=.nils)∨(0<i∧∃b,0<b∧v=.slr 1 b 0 i∧h[b]?=some (.live 1 true false rows))
theorem atT(m:aa3){l:List Int}{nn:Bool}(hl:l.length=m.sens.length)(hs:m.small)(h6:m.votes.length≤6)(hi:∀v∈m.votes,Idx m v.sens)(o:Out)(h':Rr)(c0:m.votes=[]→(o,h')=(.ret .nils,[]))(c1:m.votes≠[]→(o,h')=(.ret (.slr 1 0 0 m.votes.length),[.live 1 true false ((m.votes.map (ajH m l)).map bv)])):
 om'.call (.fn 28) [.agg [slv 3 true m.nS (m.sens.map aaZ.cells),slv 4 false m.nV (m.votes.map aaL.cells),slv 5 false m.nM (m.moves.map aaM.cells),.int .i64 m.states,.int .i64 m.cmds,.int .i64 m.bgn,slv 1 true m.nO (m.opn.map iv)],slv 1 true nn (l.map iv)] []=some (o,h'):=by
 have hI:=hi
 clear hi
 (refine ce Try.func28 ?_;simp only[Try.f28];(have hb:=trivial;with_reducible repeat' (first|simp only[hb,Vc.down,seval,av9.down,aaC]|refine fsp ?_ ?_<;>intro hb|refine fd ?_|fail)))
 refine ac3 (lst 26 m.votes (fun i (zz:List Bool) t h=>t 1=slv 1 true nn (l.map iv)∧t 2=.ptr 0 0 0∧t 6=.int .i64 i∧(h[0]?=some (.live 7 false false [[slv 3 true m.nS (m.sens.map aaZ.cells),slv 4 false m.nV (m.votes.map aaL.cells),slv 5 false m.nM (m.moves.map aaM.cells),.int .i64 m.states,.int .i64 m.cmds,.int .i64 m.bgn,slv 1 true m.nO (m.opn.map iv)]])∧zz.length=i∧auG (t 5) i (zz.map bv) h)) (fun rest zz=>zz++rest.map (ajH m l)) (fun r e t h=>e=.exit 0∧auG (t 5) m.votes.length (r.map bv) h) ?_ ?_ ([]) _ _ ?_) (fun e t h hk=>?_)
 ·rintro a t h Q' kQ ⟨h1,h2,h6,⟨hA,hp,hc⟩⟩
  (have hb:=trivial;with_reducible repeat' (first|simp only[hb,Vc.down,seval,av9.down,h1,h2,h6,aaD,decide_false,hA,aaC]|refine fsp ?_ ?_<;>intro hb|refine fd ?_|fail))
  exact kQ _ _ _ ⟨rfl,by simpa [up]using hc⟩
 ·rintro x rest i a t h J Q' kJ kQ hx hi ⟨h1,h2,h6,⟨hA,hp,hc⟩⟩
  have hd:decide ((i:Int)<(m.votes.length:Int))=true:=decide_eq_true (by omega)
  have hw:=aaR hi hs.votes
  have hV:=aID m x (l:=l) (nn:=nn) hl (hs.vs x (aaW hx)) (hI x (aaW hx))
  have hA1:=aa0 hA
  have h0l:0<h.length:=(ab6.1 hA).1
  rcases hc with⟨rfl,ho⟩|⟨h0,b,hb0,ho,hb⟩
  ·simp only[akF]at hd
   (have hb:=trivial;with_reducible repeat' (first|simp only[hb,Vc.down,seval,av9.down,h1,h2,h6,ho,hd,hw,hx,hA,hA1,hV,aaL.cells,aaC]|refine fsp ?_ ?_<;>intro hb|refine fd ?_|fail))
   obtain rfl:a=[]:=afB.1 hp
   (refine abE (kJ _ _ [ajH m l x] ⟨?_,?_,?_,⟨hA1 _,rfl,.inr ⟨by omega,h.length+1,by omega,by simp[up],by rw[apY];simp[bv]⟩⟩⟩ ?_);(simp[up,h1]);(simp[up,h2]);(simp[up]);(simp))
  ·have hbl:b<h.length:=(ab6.1 hb).1
   have hB:=aa0 hb
   have hS:=atQ hbl
   have hlp:0+i=a.length:=by omega
   have hi39:(i+1≤549755813888)=True:=eq_true (by omega)
   (have hb:=trivial;with_reducible repeat' (first|simp only[hb,Vc.down,seval,av9.down,h1,h2,h6,ho,hd,hw,hx,hA,hA1,hV,aaL.cells,aaC,hB,hS,akE,ae4,hp,hi39]|refine fsp ?_ ?_<;>intro hb|refine fd ?_|fail))
   (refine abE (kJ _ _ (a++[ajH m l x]) ⟨?_,?_,?_,⟨atM _ (by omega) hA _,by simp[hp],.inr ⟨by omega,h.length+1,by omega,by simp[up],by rw[akE];simp[bv]⟩⟩⟩ ?_);(simp[up,h1]);(simp[up,h2]);(simp[up]);(simp))
 ·exact⟨by simp[up,ent],by simp[up,ent],by simp[up],⟨rfl,rfl,.inl ⟨rfl,by simp[up]⟩⟩⟩
 obtain⟨rfl,⟨hn,ho⟩|⟨hn,b,hb0,ho,hb⟩⟩:=hk
 ·rw[c0 (afB.1 hn)]
  (have hb:=trivial;with_reducible repeat' (first|simp only[hb,Vc.down,seval,av9.down,ho]|refine fsp ?_ ?_<;>intro hb|refine fd ?_|fail))
 ·rw[c1 (fun e=>by rw[e]at hn;simp at hn)]
  (with_reducible repeat' (first|simp only[hb,Vc.down,seval,av9.down,ho,hb]|refine fsp ?_ ?_<;>intro hb|refine fd ?_|fail))
def aiX:List Bool→Nat→Int→Int
 | [],_,b=>b
 |v::vs,i,b=>aiX vs (i+1) (if v=true then orN b (azR i)else b)
theorem atO(m:aa3)(l:List Int):∀(vs:List aaL) (i:Nat) (b:Int),aiJ m l vs i b=aiX (vs.map (ajH m l)) i b
 | [],_,_=>rfl
 |v::vs,i,b=>by simp only[aiJ,List.map_cons,aiX];exact atO m l vs _ _
def adV(b v:Int):Bool:=aGE (azD b v.toNat)==1
theorem aEP:∀(l:List Bool),l.length≤6→∀i:Nat,i<l.length→l[i]?=some (adV (aiX l 0 0) i)
 | [],_,i,h=>by simp at h
 | [a],_,i,h=>by
   have:∀a:Bool,∀i:Fin 1,[a][i.val]?=some (adV (aiX [a] 0 0) (i.val:Nat)):=by decide+kernel
   exact this a ⟨i,h⟩
 | [a,b],_,i,h=>by
   have:∀a b:Bool,∀i:Fin 2,[a,b][i.val]?=some (adV (aiX [a,b] 0 0) (i.val:Nat)):=by decide+kernel
   exact this a b ⟨i,h⟩
 | [a,b,c],_,i,h=>by
   have:∀a b c:Bool,∀i:Fin 3,[a,b,c][i.val]?=some (adV (aiX [a,b,c] 0 0) (i.val:Nat)):=by decide+kernel
   exact this a b c ⟨i,h⟩
 | [a,b,c,d],_,i,h=>by
   have:∀a b c d:Bool,∀i:Fin 4,[a,b,c,d][i.val]?=some (adV (aiX [a,b,c,d] 0 0) (i.val:Nat)):=by decide+kernel
   exact this a b c d ⟨i,h⟩
 | [a,b,c,d,e],_,i,h=>by
   have:∀a b c d e:Bool,∀i:Fin 5,[a,b,c,d,e][i.val]?=some (adV (aiX [a,b,c,d,e] 0 0) (i.val:Nat)):=by decide+kernel
   exact this a b c d e ⟨i,h⟩
 | [a,b,c,d,e,f],_,i,h=>by
   have:∀a b c d e f:Bool,∀i:Fin 6,[a,b,c,d,e,f][i.val]?=some (adV (aiX [a,b,c,d,e,f] 0 0) (i.val:Nat)):=by decide+kernel
   exact this a b c d e f ⟨i,h⟩
 |_::_::_::_::_::_::_::_,h,_,_=>by simp only[List.length_cons]at h;omega
theorem ayB(a b:Bool):ad4 Try.prog .neq 4 (.bool a) (.bool b)=some (.bool (!(a==b))):=by cases a<;>cases b<;>kernel_rfl
structure aiR where
 frm:Int
 to:Int
 nn:Bool
 wants:List aaO
 cmd:Int
 after:Int
 st:Int
 ag:Int
 bits:Int
 com:Int
theorem aED(n:aiR):om'.call (.fn 92) [.agg [.int .i64 n.frm,.int .i64 n.to,slv 2 true n.nn (n.wants.map aaO.cells),.int .i64 n.cmd,.int .i64 n.after,.int .i64 n.st,.int .i64 n.ag,.int .i64 n.bits,.int .i64 n.com]] []=some (.ret (.bool (n.frm==n.st)),[]):=by
 (refine ce Try.func92 ?_;simp only[Try.f92];(have hb:=trivial;with_reducible repeat' (first|simp only[hb,Vc.down,seval,aKL.down]|refine fsp ?_ ?_<;>intro hb|refine fd ?_|fail)))
theorem aJB(n:aiR):om'.call (.fn 93) [.agg [.int .i64 n.frm,.int .i64 n.to,slv 2 true n.nn (n.wants.map aaO.cells),.int .i64 n.cmd,.int .i64 n.after,.int .i64 n.st,.int .i64 n.ag,.int .i64 n.bits,.int .i64 n.com]] []=some (.ret (.bool (decide (n.after≤n.ag))),[]):=by
 (refine ce Try.func93 ?_;simp only[Try.f93];(have hb:=trivial;with_reducible repeat' (first|simp only[hb,Vc.down,seval,aKX.down]|refine fsp ?_ ?_<;>intro hb|refine fd ?_|fail)))
theorem aFX(n:aiR):om'.call (.fn 95) [.agg [.int .i64 n.frm,.int .i64 n.to,slv 2 true n.nn (n.wants.map aaO.cells),.int .i64 n.cmd,.int .i64 n.after,.int .i64 n.st,.int .i64 n.ag,.int .i64 n.bits,.int .i64 n.com]] []=some (.ret (.bool (n.cmd== -1||n.cmd==n.com)),[]):=by
 (refine ce Try.func95 ?_;simp only[Try.f95];(have hb:=trivial;with_reducible repeat' (first|simp only[hb,Vc.down,seval,aK0.down]|refine fsp ?_ ?_<;>intro hb|refine fd ?_|fail)))
 all_goals simp_all
theorem au4(n:aiR)(w:aaO)(h0:0≤w.vote):om'.call (.fn 99) [.agg [.int .i64 w.vote,.bool w.is],.ptr 0 0 0] [.live 9 false false [[.int .i64 n.frm,.int .i64 n.to,slv 2 true n.nn (n.wants.map aaO.cells),.int .i64 n.cmd,.int .i64 n.after,.int .i64 n.st,.int .i64 n.ag,.int .i64 n.bits,.int .i64 n.com]]]=some (.ret (.bool (!(adV n.bits w.vote==w.is))),[.live 9 false false [[.int .i64 n.frm,.int .i64 n.to,slv 2 true n.nn (n.wants.map aaO.cells),.int .i64 n.cmd,.int .i64 n.after,.int .i64 n.st,.int .i64 n.ag,.int .i64 n.bits,.int .i64 n.com]]]):=by
 obtain⟨v,is⟩:=w
 obtain⟨k,hk⟩:∃k:Nat,v=k:=⟨v.toNat,by simp at h0;omega⟩
 subst hk
 (refine ce Try.func99 ?_;simp only[Try.f99];(have hb:=trivial;with_reducible repeat' (first|simp only[hb,Vc.down,seval,aKQ.down,ayB]|refine fsp ?_ ?_<;>intro hb|refine fd ?_|fail)))
 all_goals simp[adV]
theorem asR{l:List aaO}{nn:Bool}{g:Nat}{ndq:aiR}{p:aaO→Bool}(hp:∀x∈l,om'.call (.fn g) (.agg [.int .i64 x.vote,.bool x.is]::[.ptr 0 0 0]) [.live 9 false false [[.int .i64 ndq.frm,.int .i64 ndq.to,slv 2 true ndq.nn (ndq.wants.map aaO.cells),.int .i64 ndq.cmd,.int .i64 ndq.after,.int .i64 ndq.st,.int .i64 ndq.ag,.int .i64 ndq.bits,.int .i64 ndq.com]]]=some (.ret (.bool (p x)),[.live 9 false false [[.int .i64 ndq.frm,.int .i64 ndq.to,slv 2 true ndq.nn (ndq.wants.map aaO.cells),.int .i64 ndq.cmd,.int .i64 ndq.after,.int .i64 ndq.st,.int .i64 ndq.ag,.int .i64 ndq.bits,.int .i64 ndq.com]]]))(hl:l.length≤maxLen):
 om'.call (.fn 98) [slv 2 true nn (l.map aaO.cells),.func (.func g) [] [.ptr 0 0 0]] [.live 9 false false [[.int .i64 ndq.frm,.int .i64 ndq.to,slv 2 true ndq.nn (ndq.wants.map aaO.cells),.int .i64 ndq.cmd,.int .i64 ndq.after,.int .i64 ndq.st,.int .i64 ndq.ag,.int .i64 ndq.bits,.int .i64 ndq.com]]]=some (.ret (.int .i64 (idx p l 0)),[.live 9 false false [[.int .i64 ndq.frm,.int .i64 ndq.to,slv 2 true ndq.nn (ndq.wants.map aaO.cells),.int .i64 ndq.cmd,.int .i64 ndq.after,.int .i64 ndq.st,.int .i64 ndq.ag,.int .i64 ndq.bits,.int .i64 ndq.com]]]):=by
 (refine ce Try.func98 ?_;simp only[Try.f98];(have hb:=trivial;with_reducible repeat' (first|simp only[hb,Vc.down,seval,an7.down,aaC]|refine fsp ?_ ?_<;>intro hb|refine fd ?_|fail)))
 refine ac3 (lst 19 l (fun i (s:Int) t h=>s=i∧h=[.live 9 false false [[.int .i64 ndq.frm,.int .i64 ndq.to,slv 2 true ndq.nn (ndq.wants.map aaO.cells),.int .i64 ndq.cmd,.int .i64 ndq.after,.int .i64 ndq.st,.int .i64 ndq.ag,.int .i64 ndq.bits,.int .i64 ndq.com]]]∧t 0=slv 2 true nn (l.map aaO.cells)∧t 1=.func (.func g) [] [.ptr 0 0 0]∧t 7=.int .i64 l.length∧t 8=.int .i64 i)
  (fun rest s=>idx p rest s) (fun r e t h=>h=[.live 9 false false [[.int .i64 ndq.frm,.int .i64 ndq.to,slv 2 true ndq.nn (ndq.wants.map aaO.cells),.int .i64 ndq.cmd,.int .i64 ndq.after,.int .i64 ndq.st,.int .i64 ndq.ag,.int .i64 ndq.bits,.int .i64 ndq.com]]]∧((e=.exit 0∧r= -1)∨(e=.ret∧t 4=.int .i64 r))) ?_ ?_ 0 _ _ ?_) (fun e t h hk=>?_)
 ·rintro s t h Q' kQ ⟨rfl,rfl,h0,h1,h7,h8⟩
  (have hb:=trivial;with_reducible repeat' (first|simp only[hb,Vc.down,seval,an7.down,h0,h1,h7,h8,aaD,decide_false]|refine fsp ?_ ?_<;>intro hb|refine fd ?_|fail))
  exact kQ _ _ _ ⟨rfl,.inl ⟨rfl,rfl⟩⟩
 ·rintro x rest i s t h J Q' kJ kQ hx hi ⟨rfl,rfl,h0,h1,h7,h8⟩
  have hpx:=hp x (aaW hx)
  have hd:decide ((i:Int)<(l.length:Int))=true:=by simpa using hi
  (have hb:=trivial;with_reducible repeat' (first|simp only[hb,Vc.down,seval,an7.down,h0,h1,h7,h8,hd,hx,aaO.cells,hpx,aaR hi hl]|refine fsp ?_ ?_<;>intro hb|refine fd ?_|fail))
  ·exact kQ _ _ _ ⟨rfl,.inr ⟨rfl,by simp[up,idx,hb]⟩⟩
  ·exact abE (kJ _ _ (i+1) ⟨by simp,rfl,by simp[up,h0],by simp[up,h1],by simp[up,h7],by simp[up]⟩ (by simp[idx,hb]))
 ·exact⟨rfl,rfl,by simp[up,ent],by simp[up,ent],by simp[up],by simp[up]⟩
 ·obtain⟨rfl,⟨rfl,hi⟩|⟨rfl,hi⟩⟩:=hk
  ·(have hb:=trivial;with_reducible repeat' (first|simp only[hb,Vc.down,seval,an7.down]|refine fsp ?_ ?_<;>intro hb|refine fd ?_|fail))
   rw[hi]
  ·(have hb:=trivial;with_reducible repeat' (first|simp only[hb,Vc.down,seval,an7.down,hi]|refine fsp ?_ ?_<;>intro hb|refine fd ?_|fail))
theorem aqJ{l:List aaO}{nn:Bool}{g:Nat}{ndq:aiR}{p:aaO→Bool}(hp:∀x∈l,om'.call (.fn g) (.agg [.int .i64 x.vote,.bool x.is]::[.ptr 0 0 0]) [.live 9 false false [[.int .i64 ndq.frm,.int .i64 ndq.to,slv 2 true ndq.nn (ndq.wants.map aaO.cells),.int .i64 ndq.cmd,.int .i64 ndq.after,.int .i64 ndq.st,.int .i64 ndq.ag,.int .i64 ndq.bits,.int .i64 ndq.com]]]=some (.ret (.bool (p x)),[.live 9 false false [[.int .i64 ndq.frm,.int .i64 ndq.to,slv 2 true ndq.nn (ndq.wants.map aaO.cells),.int .i64 ndq.cmd,.int .i64 ndq.after,.int .i64 ndq.st,.int .i64 ndq.ag,.int .i64 ndq.bits,.int .i64 ndq.com]]]))(hl:l.length≤maxLen):
 om'.call (.fn 89) [slv 2 true nn (l.map aaO.cells),.func (.func g) [] [.ptr 0 0 0]] [.live 9 false false [[.int .i64 ndq.frm,.int .i64 ndq.to,slv 2 true ndq.nn (ndq.wants.map aaO.cells),.int .i64 ndq.cmd,.int .i64 ndq.after,.int .i64 ndq.st,.int .i64 ndq.ag,.int .i64 ndq.bits,.int .i64 ndq.com]]]=some (.ret (.bool (l.any p)),[.live 9 false false [[.int .i64 ndq.frm,.int .i64 ndq.to,slv 2 true ndq.nn (ndq.wants.map aaO.cells),.int .i64 ndq.cmd,.int .i64 ndq.after,.int .i64 ndq.st,.int .i64 ndq.ag,.int .i64 ndq.bits,.int .i64 ndq.com]]]):=by
 (refine ce Try.func89 ?_;simp only[Try.f89];(have hb:=trivial;with_reducible repeat' (first|simp only[hb,Vc.down,seval,asR hp hl,ajZ p l 0 (Int.le_refl 0)]|refine fsp ?_ ?_<;>intro hb|refine fd ?_|fail)))
def ap0(bits:Int)(l:List aaO):Bool:=l.all fun w=>adV bits w.vote==w.is
theorem ayZ(n:aiR)(hl:n.wants.length≤maxLen)(h0:∀w∈n.wants,0≤w.vote):om'.call (.fn 94) [.agg [.int .i64 n.frm,.int .i64 n.to,slv 2 true n.nn (n.wants.map aaO.cells),.int .i64 n.cmd,.int .i64 n.after,.int .i64 n.st,.int .i64 n.ag,.int .i64 n.bits,.int .i64 n.com]] []=some (.ret (.bool (ap0 n.bits n.wants)),[]):=by
 have hc:=aqJ (ndq:=n) (l:=n.wants) (nn:=n.nn) (g:=99) (p:=fun w=> !(adV n.bits w.vote==w.is)) (fun w hw=>au4 n w (h0 w hw)) hl
 have q1:ap0 n.bits n.wants= !(n.wants.any fun w=> !(adV n.bits w.vote==w.is)):=aiI
 (refine ce Try.func94 ?_;simp only[Try.f94];(have hb:=trivial;with_reducible repeat' (first|simp only[hb,Vc.down,seval,aJ6.down,hc]|refine fsp ?_ ?_<;>intro hb|refine fd ?_|fail)))
 all_goals simp[q1]
theorem aHA(f0 f1 f2 f3:Fn)(a0 a1 a2 a3 c0 c1 c2 c3:List AV):ai1 Try.prog 155 [(0,.func f0 a0 c0),(1,.func f1 a1 c1),(2,.func f2 a2 c2),(3,.func f3 a3 c3)]=some (.agg [.func f0 a0 c0,.func f1 a1 c1,.func f2 a2 c2,.func f3 a3 c3]):=by kernel_rfl
theorem aC4(a b c d:AV):ahG Try.prog 155 (.agg [a,b,c,d]) (.int .i64 0)=some a:=by kernel_rfl
theorem aC7(a b c d:AV):ahG Try.prog 155 (.agg [a,b,c,d]) (.int .i64 1)=some b:=by kernel_rfl
theorem aC0(a b c d:AV):ahG Try.prog 155 (.agg [a,b,c,d]) (.int .i64 2)=some c:=by kernel_rfl
theorem aC2(a b c d:AV):ahG Try.prog 155 (.agg [a,b,c,d]) (.int .i64 3)=some d:=by kernel_rfl
def aBP(n:aiR):Bool:=(n.frm==n.st)&&decide (n.after≤n.ag)&&ap0 n.bits n.wants&&(n.cmd== -1||n.cmd==n.com)
theorem w2:IntKind.i64.wrap 2=2:=Eq.trans rfl rfl
theorem w3:IntKind.i64.wrap 3=3:=Eq.trans rfl rfl
theorem w4:IntKind.i64.wrap 4=4:=Eq.trans rfl rfl
theorem awD(n:aiR)(hl:n.wants.length≤maxLen)(h0:∀w∈n.wants,0≤w.vote):om'.call (.fn 75) [.agg [.int .i64 n.frm,.int .i64 n.to,slv 2 true n.nn (n.wants.map aaO.cells),.int .i64 n.cmd,.int .i64 n.after,.int .i64 n.st,.int .i64 n.ag,.int .i64 n.bits,.int .i64 n.com]] []=some (.ret (.bool (aBP n)),[]):=by
 have q1:=aED n
 have q2:=aJB n
 have q3:=ayZ n hl h0
 have q4:=aFX n
 (refine ce Try.func75 ?_;simp only[Try.f75];(have hb:=trivial;with_reducible repeat' (first|simp only[hb,Vc.down,seval,aHW.down,aHA,aC4,aC7,aC0,aC2,q1,q2,q3,q4,w2,w3,w4]|refine fsp ?_ ?_<;>intro hb|refine fd ?_|fail)))
 (have hb:=trivial;with_reducible repeat' (first|simp only[hb,Vc.down,seval,aHW.down,aHA,aC4,aC7,aC0,aC2,q1,q2,q3,q4,w2,w3,w4]|refine fsp ?_ ?_<;>intro hb|refine fd ?_|refine aJ7 ?_|fail))
 all_goals (refine congrArg (fun b=>(Out.ret (AV.bool b),([]:Rr))) ?_;symm;((try simp only[ak9,afC,afP]at *);simp only[aBP, *,al4,ab9,Bool.and_true,abW,Bool.and_self,Bool.not_not,afC,afP,ab8,List.all_nil]))
def nd(x:aaM)(st ag bits com:Int):aiR:=⟨x.frm,x.to,x.nn,x.wants,x.cmd,x.after,st,ag,bits,com⟩
def aEW(a:Int):Int:=if IntKind.i64.wrap (a+1)<10 then IntKind.i64.wrap (a+1)else 10
def amQ(st ag bits com:Int):List aaM→Int × Int
 | []=>(st,aEW ag)
 |x::l=>if aBP (nd x st ag bits com)=true then(x.to,0)else amQ st ag bits com l
theorem aFT(m:aa3)(st ag bits com:Int)(hs:m.small)(h0:∀x∈m.moves,∀w∈x.wants,0≤w.vote):
 om'.call (.fn 45) [.agg [slv 3 true m.nS (m.sens.map aaZ.cells),slv 4 false m.nV (m.votes.map aaL.cells),slv 5 false m.nM (m.moves.map aaM.cells),.int .i64 m.states,.int .i64 m.cmds,.int .i64 m.bgn,slv 1 true m.nO (m.opn.map iv)],.agg [.int .i64 st,.int .i64 ag],.agg [.int .i64 bits,.int .i64 com]] []=some (.ret (.agg [.int .i64 (amQ st ag bits com m.moves).1,.int .i64 (amQ st ag bits com m.moves).2]),[]):=by
 (refine ce Try.func45 ?_;simp only[Try.f45];(have hb:=trivial;with_reducible repeat' (first|simp only[hb,Vc.down,seval,ayA.down,aaC]|refine fsp ?_ ?_<;>intro hb|refine fd ?_|fail)))
 refine ac3 (lst 32 m.moves (fun i (zz:Unit) t h=>t 4=.ptr 1 0 0∧t 5=.ptr 2 0 0∧t 6=.ptr 3 0 0∧t 10=slv 5 false m.nM (m.moves.map aaM.cells)∧t 11=.int .i64 m.moves.length∧t 12=.int .i64 i∧(h[1]?=some (.live 2 true false [[.int .i64 st,.int .i64 ag]])∧h[2]?=some (.live 2 true false [[.int .i64 bits,.int .i64 com]])∧h[3]?=some (.live 2 true false [[.int .i64 0,.int .i64 0]]))) (fun rest zz=>amQ st ag bits com rest) (fun r e t h=>(e=.exit 0∧t 4=.ptr 1 0 0∧t 6=.ptr 3 0 0∧h[1]?=some (.live 2 true false [[.int .i64 st,.int .i64 ag]])∧h[3]?=some (.live 2 true false [[.int .i64 0,.int .i64 0]])∧r=(st,aEW ag))∨(e=.ret∧t 6=.ptr 3 0 0∧h[3]?=some (.live 2 true true [[.int .i64 r.1,.int .i64 r.2]]))) ?_ ?_ () _ _ ?_) (fun e t h hk=>?_)
 ·rintro _ t h Q' kQ ⟨h4,h5,h6,h10,h11,h12,⟨hA,hB,hC⟩⟩
  (have hb:=trivial;with_reducible repeat' (first|simp only[hb,Vc.down,seval,ayA.down,h4,h5,h6,h10,h11,h12,aaD,decide_false]|refine fsp ?_ ?_<;>intro hb|refine fd ?_|fail))
  exact kQ _ _ _ (.inl ⟨rfl,by simp[up,h4],by simp[up,h6],hA,hC,rfl⟩)
 ·rintro x rest i _ t h J Q' kJ kQ hx hi ⟨h4,h5,h6,h10,h11,h12,⟨hA,hB,hC⟩⟩
  have hd:decide ((i:Int)<(m.moves.length:Int))=true:=decide_eq_true (by omega)
  have hw:=aaR hi hs.moves
  have hA1:=aa0 hA
  have hB1:=aa0 hB
  have hC1:=aa0 hC
  have hap:=awD (nd x st ag bits com) (hs.ws x (aaW hx)) (h0 x (aaW hx))
  have h3l:3<h.length:=(ab6.1 hC).1
  generalize hq:aBP (nd x st ag bits com)=q at hap
  simp only[nd]at hap
  (have hb:=trivial;with_reducible repeat' (first|simp only[hb,Vc.down,seval,ayA.down,h4,h5,h6,h10,h11,h12,hd,hx,hw,hA1,hB1,hC1,hap,aaM.cells,aaC]|refine fsp ?_ ?_<;>intro hb|refine fd ?_|fail))
  ·exact kQ _ _ _ (.inr ⟨rfl,by simp[up,h6],by rw[al7 (by simp;omega)];simp[amQ,hq,hb]⟩)
  ·(refine abE (kJ _ _ () ⟨?_,?_,?_,?_,?_,?_,⟨hA1 _,hB1 _,hC1 _⟩⟩ ?_);(simp[up,h4]);(simp[up,h5]);(simp[up,h6]);(simp[up,h10]);(simp[up,h11]);(simp[up]);(simp[amQ,hq,hb]))
 ·exact⟨by simp[up,ent],by simp[up,ent],by simp[up,ent],by simp[up,ent],by simp[up,ent],by simp[up],⟨rfl,rfl,rfl⟩⟩
 rcases hk with⟨rfl,h4,h6,hA,hC,hr⟩|⟨rfl,h6,hC⟩
 ·have hA1:=aa0 hA
  have hC1:=aa0 hC
  have h3l:3<h.length:=(ab6.1 hC).1
  have hset:∀c:CB,(h.set 3 c)[3]?=some c:=fun c=>al7 h3l
  have hmt:(if IntKind.i64.wrap (ag+1)<10 then IntKind.i64.wrap (ag+1)else 10)=aEW ag:=rfl
  rw[hr]
  (have hb:=trivial;with_reducible repeat' (first|simp only[hb,Vc.down,seval,ayA.down,h4,h6,hA,hC,hA1,hC1,hset,hmt]|refine fsp ?_ ?_<;>intro hb|refine fd ?_|fail))
 ·(have hb:=trivial;with_reducible repeat' (first|simp only[hb,Vc.down,seval,ayA.down,h6,hC]|refine fsp ?_ ?_<;>intro hb|refine fd ?_|fail))
theorem anM{m:aa3}{l:List Int}(h:aiL m l=true):l.length=m.sens.length:=by
 simp only[aiL,aa5,beq_iff_eq]at h
 omega
theorem apG{m:aa3}(h:ac6 m=true):m.votes.length≤6:=by
 simp only[ac6,aj3,aa5,decide_eq_true_eq]at h
 exact h.1.1.1.1.1.1.1.1.1.2
def amZ(m:aa3):Bool:=m.votes.all (fun v=>decide (v.sens.length≤10))&&m.moves.all (fun x=>decide (x.wants.length≤10))&&decide (m.sens.length≤10)&&decide (m.votes.length≤10)&&decide (m.moves.length≤30)&&decide (m.opn.length≤20)
theorem aB8(m:aa3)(hs:m.small):om'.call (.fn 12) [.agg [slv 3 true m.nS (m.sens.map aaZ.cells),slv 4 false m.nV (m.votes.map aaL.cells),slv 5 false m.nM (m.moves.map aaM.cells),.int .i64 m.states,.int .i64 m.cmds,.int .i64 m.bgn,slv 1 true m.nO (m.opn.map iv)]] []=some (.ret (.bool (amZ m)),[]):=by
 have l1:decide ((m.sens.length:Int)≤10)=decide (m.sens.length≤10):=by rw[decide_eq_decide];omega
 have l2:decide ((m.votes.length:Int)≤10)=decide (m.votes.length≤10):=by rw[decide_eq_decide];omega
 have l3:decide ((m.moves.length:Int)≤30)=decide (m.moves.length≤30):=by rw[decide_eq_decide];omega
 have l4:decide ((m.opn.length:Int)≤20)=decide (m.opn.length≤20):=by rw[decide_eq_decide];omega
 (refine ce Try.func12 ?_;simp only[Try.f12];(have hb:=trivial;with_reducible repeat' (first|simp only[hb,Vc.down,seval,anG.down,aaC]|refine fsp ?_ ?_<;>intro hb|refine fd ?_|fail)))
 refine ac3 (lst 57 m.votes (fun i (zz:Unit) t h=>t 1=.ptr 0 0 0∧t 3=.int .i64 i∧(h=[.live 7 false false [[slv 3 true m.nS (m.sens.map aaZ.cells),slv 4 false m.nV (m.votes.map aaL.cells),slv 5 false m.nM (m.moves.map aaM.cells),.int .i64 m.states,.int .i64 m.cmds,.int .i64 m.bgn,slv 1 true m.nO (m.opn.map iv)]]])) (fun rest zz=>rest.all (fun v=>decide (v.sens.length≤10))) (fun r e t h=>(if r=true then e=.exit 0∧t 1=.ptr 0 0 0∧h=[.live 7 false false [[slv 3 true m.nS (m.sens.map aaZ.cells),slv 4 false m.nV (m.votes.map aaL.cells),slv 5 false m.nM (m.moves.map aaM.cells),.int .i64 m.states,.int .i64 m.cmds,.int .i64 m.bgn,slv 1 true m.nO (m.opn.map iv)]]]else e=.ret∧t 2=.bool false)) ?_ ?_ () _ _ ?_) (fun e t h hk=>?_)
 ·rintro _ t h Q' kQ ⟨h1,h3,rfl⟩
  (have hb:=trivial;with_reducible repeat' (first|simp only[hb,Vc.down,seval,anG.down,h1,h3,aaD,decide_false,aaC]|refine fsp ?_ ?_<;>intro hb|refine fd ?_|fail))
  exact kQ _ _ _ (by rw[if_pos (by rfl)];exact⟨rfl,by simp[up,h1],rfl⟩)
 ·rintro x rest i _ t h J Q' kJ kQ hx hi ⟨h1,h3,rfl⟩
  have hd:decide ((i:Int)<(m.votes.length:Int))=true:=decide_eq_true (by omega)
  have hw:=aaR hi hs.votes
  have lx:decide ((10:Int)<(x.sens.length:Int))= !decide (x.sens.length≤10):=by rw[←decide_not,decide_eq_decide];omega
  cases c1:decide (x.sens.length≤10)with
  |false=>
   (have hb:=trivial;with_reducible repeat' (first|simp only[hb,Vc.down,seval,anG.down,h1,h3,hd,hx,hw,lx,c1,aaL.cells,aaC]|refine fsp ?_ ?_<;>intro hb|refine fd ?_|fail))
   exact kQ _ _ _ (by rw[if_neg (by simp only[ab8,c1,ab9];simp)];exact⟨rfl,by simp[up]⟩)
  |true=>
   (have hb:=trivial;with_reducible repeat' (first|simp only[hb,Vc.down,seval,anG.down,h1,h3,hd,hx,hw,lx,c1,aaL.cells,aaC]|refine fsp ?_ ?_<;>intro hb|refine fd ?_|fail))
   (refine abE (kJ _ _ () ⟨?_,?_,rfl⟩ ?_);(simp[up,h1]);(simp[up]);(simp only[ab8,c1,abW]))
 ·exact⟨by simp[up,ent],by simp[up],rfl⟩
 split at hk
 rotate_left
 ·obtain⟨rfl,h2⟩:=hk
  rename_i hr1
  (have hb:=trivial;with_reducible repeat' (first|simp only[hb,Vc.down,seval,anG.down,h2]|refine fsp ?_ ?_<;>intro hb|refine fd ?_|fail))
  all_goals simp[amZ,ag9.2 hr1]
 obtain⟨rfl,h1,rfl⟩:=hk
 rename_i hr1
 (have hb:=trivial;with_reducible repeat' (first|simp only[hb,Vc.down,seval,anG.down,h1,aaC]|refine fsp ?_ ?_<;>intro hb|refine fd ?_|fail))
 refine ac3 (lst 57 m.moves (fun i (zz:Unit) t h=>t 1=.ptr 0 0 0∧t 4=.int .i64 i∧(h=[.live 7 false false [[slv 3 true m.nS (m.sens.map aaZ.cells),slv 4 false m.nV (m.votes.map aaL.cells),slv 5 false m.nM (m.moves.map aaM.cells),.int .i64 m.states,.int .i64 m.cmds,.int .i64 m.bgn,slv 1 true m.nO (m.opn.map iv)]]])) (fun rest zz=>rest.all (fun x=>decide (x.wants.length≤10))) (fun r e t h=>(if r=true then e=.exit 2∧t 1=.ptr 0 0 0∧h=[.live 7 false false [[slv 3 true m.nS (m.sens.map aaZ.cells),slv 4 false m.nV (m.votes.map aaL.cells),slv 5 false m.nM (m.moves.map aaM.cells),.int .i64 m.states,.int .i64 m.cmds,.int .i64 m.bgn,slv 1 true m.nO (m.opn.map iv)]]]else e=.ret∧t 2=.bool false)) ?_ ?_ () _ _ ?_) (fun e t h hk=>?_)
 ·rintro _ t h Q' kQ ⟨h1,h4,rfl⟩
  (have hb:=trivial;with_reducible repeat' (first|simp only[hb,Vc.down,seval,anG.down,h1,h4,aaD,decide_false,aaC]|refine fsp ?_ ?_<;>intro hb|refine fd ?_|fail))
  exact kQ _ _ _ (by rw[if_pos (by rfl)];exact⟨rfl,by simp[up,h1],rfl⟩)
 ·rintro x rest i _ t h J Q' kJ kQ hx hi ⟨h1,h4,rfl⟩
  have hd:decide ((i:Int)<(m.moves.length:Int))=true:=decide_eq_true (by omega)
  have hw:=aaR hi hs.moves
  have lx:decide ((10:Int)<(x.wants.length:Int))= !decide (x.wants.length≤10):=by rw[←decide_not,decide_eq_decide];omega
  cases c1:decide (x.wants.length≤10)with
  |false=>
   (have hb:=trivial;with_reducible repeat' (first|simp only[hb,Vc.down,seval,anG.down,h1,h4,hd,hx,hw,lx,c1,aaM.cells,aaC]|refine fsp ?_ ?_<;>intro hb|refine fd ?_|fail))
   exact kQ _ _ _ (by rw[if_neg (by simp only[ab8,c1,ab9];simp)];exact⟨rfl,by simp[up]⟩)
  |true=>
   (have hb:=trivial;with_reducible repeat' (first|simp only[hb,Vc.down,seval,anG.down,h1,h4,hd,hx,hw,lx,c1,aaM.cells,aaC]|refine fsp ?_ ?_<;>intro hb|refine fd ?_|fail))
   (refine abE (kJ _ _ () ⟨?_,?_,rfl⟩ ?_);(simp[up,h1]);(simp[up]);(simp only[ab8,c1,abW]))
 ·exact⟨by simp[up,ent,h1],by simp[up],rfl⟩
 split at hk
 rotate_left
 ·obtain⟨rfl,h2⟩:=hk
  rename_i hr2
  (have hb:=trivial;with_reducible repeat' (first|simp only[hb,Vc.down,seval,anG.down,h2]|refine fsp ?_ ?_<;>intro hb|refine fd ?_|fail))
  all_goals simp[amZ,ag9.2 hr2]
 obtain⟨rfl,h1,rfl⟩:=hk
 rename_i hr2
 (have hb:=trivial;with_reducible repeat' (first|simp only[hb,Vc.down,seval,anG.down,h1,aaC,l1,l2,l3,l4]|refine fsp ?_ ?_<;>intro hb|refine fd ?_|fail))
 all_goals (refine congrArg (fun b=>(Out.ret (AV.bool b),([]:Rr))) ?_;symm;((try simp only[ak9,afC,afP]at *);simp only[amZ, *,al4,ab9,Bool.and_true,abW,Bool.and_self,Bool.not_not,afC,afP,ab8,List.all_nil]))
theorem arU{α:Type}{d:List AV→Option α}{f:α→List AV}(hd:∀cs x,d cs=some x→cs=f x):∀{rows:List (List AV)} {l:List α},aa1 d rows=some l→rows=l.map f
 | [],l,h=>by simp[aa1]at h;subst h;rfl
 |r::rows,l,h=>by
  simp only[aa1,acB,acM]at h
  obtain⟨x,h1,l',h2,rfl⟩:=h
  rw[hd r x h1,arU hd h2];rfl
def dSl{α:Type}(n:Nat)(fl:Bool)(d:List AV→Option α):AV→Option (Bool × List α)
 | .nils=>some (false,[])
 | .imm n' fl' rows=>if n'=n∧fl'=fl then(aa1 d rows).map fun l=>(true,l)else none
 |_=>none
theorem ajC{α:Type}{n:Nat}{fl:Bool}{d:List AV→Option α}{f:α→List AV}(hd:∀cs x,d cs=some x→cs=f x){v:AV}{x:Bool × List α}(h:dSl n fl d v=some x):v=slv n fl x.1 (x.2.map f):=by
 unfold dSl at h
 split at h
 ·cases h;rfl
 ·split at h
  ·rename_i hq
   obtain⟨rfl,rfl⟩:=hq
   obtain⟨l,h1,rfl⟩:=acM.1 h
   rw[arU hd h1]
   cases l<;>rfl
  ·cases h
 ·cases h
def azH:List AV→Option Int
 | [.int .i64 a]=>some a
 |_=>none
theorem apE(cs:List AV)(x:Int)(h:azH cs=some x):cs=iv x:=by
 unfold azH at h
 split at h
 ·cases h;rfl
 ·cases h
def aD4:List AV→Option aaZ
 | [.int .i64 a,.int .i64 b,.bool c]=>some ⟨a,b,c⟩
 |_=>none
theorem aCS(cs:List AV)(x:aaZ)(h:aD4 cs=some x):cs=x.cells:=by
 unfold aD4 at h
 split at h
 ·cases h;rfl
 ·cases h
def axT:List AV→Option aaL
 | [l,.int .i64 a,.int .i64 b,.bool c]=>(dSl 1 true azH l).map fun x=>⟨x.1,x.2,a,b,c⟩
 |_=>none
theorem axX(cs:List AV)(x:aaL)(h:axT cs=some x):cs=x.cells:=by
 unfold axT at h
 split at h
 ·obtain⟨y,h1,rfl⟩:=acM.1 h
  rw[ajC apE h1];rfl
 ·cases h
def ay6:List AV→Option aaO
 | [.int .i64 a,.bool c]=>some ⟨a,c⟩
 |_=>none
theorem ayI(cs:List AV)(x:aaO)(h:ay6 cs=some x):cs=x.cells:=by
 unfold ay6 at h
 split at h
 ·cases h;rfl
 ·cases h
def az3:List AV→Option aaM
 | [.int .i64 a,.int .i64 b,l,.int .i64 c,.int .i64 d]=>(dSl 2 true ay6 l).map fun x=>⟨a,b,x.1,x.2,c,d⟩
 |_=>none
theorem axW(cs:List AV)(x:aaM)(h:az3 cs=some x):cs=x.cells:=by
 unfold az3 at h
 split at h
 ·obtain⟨y,h1,rfl⟩:=acM.1 h
  rw[ajC ayI h1];rfl
 ·cases h
def aqE:List AV→Option aa3
 | [s,v,x,.int .i64 a,.int .i64 b,.int .i64 c,o]=>(dSl 3 true aD4 s).bind fun s=>(dSl 4 false axT v).bind fun v=>(dSl 5 false az3 x).bind fun x=>(dSl 1 true azH o).map fun o=>⟨s.1,s.2,v.1,v.2,x.1,x.2,a,b,c,o.1,o.2⟩
 |_=>none
theorem anL(cs:List AV)(x:aa3)(h:aqE cs=some x):cs=x.cells:=by
 unfold aqE at h
 split at h
 ·simp only[acB,acM]at h
  obtain⟨s,h1,v,h2,y,h3,o,h4,rfl⟩:=h
  rw[ajC aCS h1,ajC axX h2,ajC axW h3,ajC apE h4]
 ·cases h
def am1(m:aa3):Bool:=decide (m.sens.length≤1000)&&decide (m.votes.length≤1000)&&decide (m.moves.length≤1000)&&decide (m.opn.length≤1000)&&m.votes.all (fun v=>decide (v.sens.length≤1000))&&m.moves.all (fun x=>decide (x.wants.length≤1000))
theorem akT{m:aa3}(h:am1 m=true):m.small:=by
 simp only[am1,aa5,decide_eq_true_eq,acZ]at h
 obtain⟨⟨⟨⟨⟨a,b⟩,c⟩,d⟩,e⟩,f⟩:=h
 exact⟨by unfold maxLen;omega,by unfold maxLen;omega,by unfold maxLen;omega,by unfold maxLen;omega,fun v hv=>by have:=e v hv;unfold maxLen;omega,fun v hv=>by have:=f v hv;unfold maxLen;omega⟩
def awQ:List AV→Rr→Option (Out × Rr)
 | [.agg cs],[]=>(aqE cs).bind fun m=>if am1 m=true then some (.ret (.bool (ac6 m)),[])else none
 |_,_=>none
def aC9:List AV→Rr→Option (Out × Rr)
 | [.agg cs,.agg [.int .i64 st,.int .i64 ag],.agg [.int .i64 bits,.int .i64 com]],[]=>(aqE cs).bind fun m=>if(am1 m&&m.moves.all fun x=>x.wants.all fun w=>decide (0≤w.vote))=true then
     (match amQ st ag bits com m.moves with
       |(a,b)=>some (.ret (.agg [.int .i64 a,.int .i64 b]),[]))else none
 |_,_=>none
def ax9:List AV→Rr→Option (Out × Rr)
 | [.agg cs,l],[]=>(aqE cs).bind fun m=>(dSl 1 true azH l).bind fun l=>if(am1 m&&decide (l.2.length=m.sens.length)&&m.votes.all fun v=>v.sens.all fun k=>decide (0≤k)&&decide (k.toNat<m.sens.length))=true then
     some (.ret (.int .i64 (aiJ m l.2 m.votes 0 0)),[])else none
 |_,_=>none
def pr2:ac4:=⟨fun f=>if f=42 then some awQ else if f=45 then some aC9 else if f=46 then some ax9 else pr f,pr.md⟩
theorem akM:∀f p,pr2 f=some p→∀a h r,p a h=some r→om'.call (.fn f) a h=some r:=by
 intro f p hp a h r hr
 simp only[pr2]at hp
 split at hp
 ·rename_i hf
  subst hf
  cases hp
  unfold awQ at hr
  split at hr
  ·rename_i cs
   obtain⟨s,h1,h2⟩:=acB.1 hr
   split at h2
   ·rename_i hs
    cases h2
    rw[anL _ _ h1]
    exact al9 s (akT hs)
   ·cases h2
  ·cases hr
 ·split at hp
  ·rename_i hf
   subst hf
   cases hp
   unfold aC9 at hr
   split at hr
   ·rename_i cs st ag bits com
    obtain⟨s,h1,h2⟩:=acB.1 hr
    split at h2
    ·rename_i hs
     simp only[aa5,acZ,decide_eq_true_eq]at hs
     cases h2
     rw[anL _ _ h1]
     exact aFT s st ag bits com (akT hs.1) hs.2
    ·cases h2
   ·cases hr
  ·split at hp
   ·rename_i hf
    subst hf
    cases hp
    unfold ax9 at hr
    split at hr
    ·rename_i cs l
     simp only[acB]at hr
     obtain⟨s,h1,y,h2,h3⟩:=hr
     split at h3
     ·rename_i hs
      simp only[aa5,acZ,decide_eq_true_eq]at hs
      cases h3
      rw[anL _ _ h1,ajC apE h2]
      exact atY s hs.1.2 (akT hs.1.1) (fun v hv k hk=>hs.2 v hv k hk)
     ·cases h3
    ·cases hr
   ·cases hp
def exA:AV:=.agg [.imm 3 true [[.int .i64 0,.int .i64 100,.bool false],[.int .i64 0,.int .i64 100,.bool false],[.int .i64 0,.int .i64 100,.bool false]],.imm 4 false [[.imm 1 true [[.int .i64 0],[.int .i64 1],[.int .i64 2]],.int .i64 2,.int .i64 80,.bool true]],.imm 5 false [[.int .i64 0,.int .i64 1,.imm 2 true [[.int .i64 0,.bool true]],.int .i64 (-1),.int .i64 0],[.int .i64 1,.int .i64 2,.nils,.int .i64 (-1),.int .i64 1],[.int .i64 2,.int .i64 0,.imm 2 true [[.int .i64 0,.bool false]],.int .i64 0,.int .i64 2]],.int .i64 3,.int .i64 1,.int .i64 0,.imm 1 true [[.int .i64 3],[.int .i64 1],[.int .i64 0]]]
def exS:AV:=.imm 2 true [[.int .i64 1,.int .i64 (-1)],[.int .i64 1,.int .i64 0],[.int .i64 0,.int .i64 (-1)],[.int .i64 0,.int .i64 0]]
def E0:Ent:=⟨54,[exA],(.ret (.tup [.slr 2 0 0 4,.slr 2 1 0 4]),[.live 2 false false [[.slr 1 2 0 3,.int .i64 (-1)],[.slr 1 3 0 3,.int .i64 0],[.slr 1 4 0 3,.int .i64 (-1)],[.slr 1 5 0 3,.int .i64 0]],.live 2 true false [[.int .i64 1,.int .i64 (-1)],[.int .i64 1,.int .i64 0],[.int .i64 0,.int .i64 (-1)],[.int .i64 0,.int .i64 0]],.live 1 true false [[.int .i64 (-10000)],[.int .i64 (-10000)],[.int .i64 (-10000)]],.live 1 true false [[.int .i64 (-10000)],[.int .i64 (-10000)],[.int .i64 (-10000)]],.live 1 true false [[.int .i64 (-10000)],[.int .i64 0],[.int .i64 0]],.live 1 true false [[.int .i64 (-10000)],[.int .i64 0],[.int .i64 0]]])⟩
def E1:Ent:=⟨55,[exA,exS],(.ret (.tup [.slr 2 0 0 24,.mapr 1]),[.live 2 true false [[.int .i64 0,.int .i64 0],[.int .i64 1,.int .i64 0],[.int .i64 0,.int .i64 1],[.int .i64 1,.int .i64 1],[.int .i64 0,.int .i64 2],[.int .i64 2,.int .i64 0],[.int .i64 0,.int .i64 3],[.int .i64 2,.int .i64 1],[.int .i64 0,.int .i64 4],[.int .i64 2,.int .i64 2],[.int .i64 0,.int .i64 5],[.int .i64 2,.int .i64 3],[.int .i64 0,.int .i64 6],[.int .i64 2,.int .i64 4],[.int .i64 0,.int .i64 7],[.int .i64 2,.int .i64 5],[.int .i64 0,.int .i64 8],[.int .i64 2,.int .i64 6],[.int .i64 0,.int .i64 9],[.int .i64 2,.int .i64 7],[.int .i64 0,.int .i64 10],[.int .i64 2,.int .i64 8],[.int .i64 2,.int .i64 9],[.int .i64 2,.int .i64 10]],.lp [] .skip .skip [.agg [.int .i64 0,.int .i64 0],.agg [.int .i64 0,.int .i64 0,.int .i64 (-1)],.agg [.int .i64 1,.int .i64 0],.agg [.int .i64 0,.int .i64 0,.int .i64 0],.agg [.int .i64 0,.int .i64 1],.agg [.int .i64 0,.int .i64 0,.int .i64 2],.agg [.int .i64 1,.int .i64 1],.agg [.int .i64 1,.int .i64 0,.int .i64 0],.agg [.int .i64 0,.int .i64 2],.agg [.int .i64 0,.int .i64 1,.int .i64 2],.agg [.int .i64 2,.int .i64 0],.agg [.int .i64 1,.int .i64 1,.int .i64 0],.agg [.int .i64 0,.int .i64 3],.agg [.int .i64 0,.int .i64 2,.int .i64 2],.agg [.int .i64 2,.int .i64 1],.agg [.int .i64 2,.int .i64 0,.int .i64 0],.agg [.int .i64 0,.int .i64 4],.agg [.int .i64 0,.int .i64 3,.int .i64 2],.agg [.int .i64 2,.int .i64 2],.agg [.int .i64 2,.int .i64 1,.int .i64 0],.agg [.int .i64 0,.int .i64 5],.agg [.int .i64 0,.int .i64 4,.int .i64 2],.agg [.int .i64 2,.int .i64 3],.agg [.int .i64 2,.int .i64 2,.int .i64 0],.agg [.int .i64 0,.int .i64 6],.agg [.int .i64 0,.int .i64 5,.int .i64 2],.agg [.int .i64 2,.int .i64 4],.agg [.int .i64 2,.int .i64 3,.int .i64 0],.agg [.int .i64 0,.int .i64 7],.agg [.int .i64 0,.int .i64 6,.int .i64 2],.agg [.int .i64 2,.int .i64 5],.agg [.int .i64 2,.int .i64 4,.int .i64 0],.agg [.int .i64 0,.int .i64 8],.agg [.int .i64 0,.int .i64 7,.int .i64 2],.agg [.int .i64 2,.int .i64 6],.agg [.int .i64 2,.int .i64 5,.int .i64 0],.agg [.int .i64 0,.int .i64 9],.agg [.int .i64 0,.int .i64 8,.int .i64 2],.agg [.int .i64 2,.int .i64 7],.agg [.int .i64 2,.int .i64 6,.int .i64 0],.agg [.int .i64 0,.int .i64 10],.agg [.int .i64 0,.int .i64 9,.int .i64 2],.agg [.int .i64 2,.int .i64 8],.agg [.int .i64 2,.int .i64 7,.int .i64 0],.agg [.int .i64 2,.int .i64 9],.agg [.int .i64 2,.int .i64 8,.int .i64 0],.agg [.int .i64 2,.int .i64 10],.agg [.int .i64 2,.int .i64 9,.int .i64 0]] .map])⟩
def E2:Ent:=⟨30,[exA,.int .i64 2],(.ret (.tup [.slr 2 0 0 3,.int .i64 0]),[.live 2 false true [[.slr 1 1 0 3,.int .i64 (-1)],[.slr 1 2 0 3,.int .i64 (-1)],[.slr 1 3 0 3,.int .i64 (-1)]],.live 1 true false [[.int .i64 (-10000)],[.int .i64 (-10000)],[.int .i64 (-10000)]],.live 1 true false [[.int .i64 (-10000)],[.int .i64 (-10000)],[.int .i64 (-10000)]],.live 1 true false [[.int .i64 (-10000)],[.int .i64 (-10000)],[.int .i64 (-10000)]]])⟩
def E3:Ent:=⟨21,[exA,.int .i64 0,.imm 1 true [[.int .i64 2]]],(.ret (.tup [.int .i64 3,.int .i64 0]),[])⟩
def E4:Ent:=⟨21,[exA,.int .i64 0,.imm 1 true [[.int .i64 0]]],(.ret (.tup [.int .i64 0,.int .i64 5]),[])⟩
theorem aoJ(f:Nat):pr f=none:=rfl
theorem aFC:(orc Try.prog pr2 400).call (.fn E0.f) E0.args []=some E0.res:=by kernel_rfl
theorem auA:om'.call (.fn E0.f) E0.args []=some E0.res:=af2 (pr:=pr) (pr2:=pr2) rfl (fun f _=>aoJ f) akM aFC
def T1:ac4:=amJ pr2 [E0]
theorem aIU:∀f p,T1 f=some p→∀a h r,p a h=some r→om'.call (.fn f) a h=some r:=ahX akM (fun e he=>by
 simp only[abM,acT,or_false]at he
 rcases he with rfl
 ·exact auA)
theorem aGB:(orc Try.prog T1 400).call (.fn E1.f) E1.args []=some E1.res:=by kernel_rfl
theorem aAJ:om'.call (.fn E1.f) E1.args []=some E1.res:=af2 (pr:=pr) (pr2:=T1) rfl (fun f _=>aoJ f) aIU aGB
def T2:ac4:=amJ pr2 [E0,E1]
theorem aJP:∀f p,T2 f=some p→∀a h r,p a h=some r→om'.call (.fn f) a h=some r:=ahX akM (fun e he=>by
 simp only[abM,acT,or_false]at he
 rcases he with rfl|rfl
 ·exact auA
 ·exact aAJ)
theorem aDV:(orc Try.prog T2 400).call (.fn E2.f) E2.args []=some E2.res:=by kernel_rfl
theorem aH1:om'.call (.fn E2.f) E2.args []=some E2.res:=af2 (pr:=pr) (pr2:=T2) rfl (fun f _=>aoJ f) aJP aDV
def T3:ac4:=amJ pr2 [E0,E1]
theorem aIN:∀f p,T3 f=some p→∀a h r,p a h=some r→om'.call (.fn f) a h=some r:=ahX akM (fun e he=>by
 simp only[abM,acT,or_false]at he
 rcases he with rfl|rfl
 ·exact auA
 ·exact aAJ)
theorem aFZ:(orc Try.prog T3 400).call (.fn E3.f) E3.args []=some E3.res:=by kernel_rfl
theorem aHT:om'.call (.fn E3.f) E3.args []=some E3.res:=af2 (pr:=pr) (pr2:=T3) rfl (fun f _=>aoJ f) aIN aFZ
def T4:ac4:=amJ pr2 [E0,E1]
theorem aJH:∀f p,T4 f=some p→∀a h r,p a h=some r→om'.call (.fn f) a h=some r:=ahX akM (fun e he=>by
 simp only[abM,acT,or_false]at he
 rcases he with rfl|rfl
 ·exact auA
 ·exact aAJ)
theorem aDO:(orc Try.prog T4 400).call (.fn E4.f) E4.args []=some E4.res:=by kernel_rfl
theorem aH2:om'.call (.fn E4.f) E4.args []=some E4.res:=af2 (pr:=pr) (pr2:=T4) rfl (fun f _=>aoJ f) aJH aDO
def TK:ac4:=amJ pr2 [E2,E3,E4]
theorem aIY:∀f p,TK f=some p→∀a h r,p a h=some r→om'.call (.fn f) a h=some r:=ahX akM (fun e he=>by
 simp only[abM,acT,or_false]at he
 rcases he with rfl|rfl|rfl
 ·exact aH1
 ·exact aHT
 ·exact aH2)
theorem av8:(orc Try.prog TK 400).call (.fn 13) [] []=some (.ret (.bool true),[]):=by kernel_rfl
theorem az6:om'.call (.fn 13) [] []=some (.ret (.bool true),[]):=af2 (pr:=pr) (pr2:=TK) rfl (fun f _=>aoJ f) aIY av8
theorem aiE{α:Type}{f:α→List AV}{p:List AV→Prop}{q:α→Prop}(hf:∀r,p r→∃x,r=f x∧q x):∀{rows:List (List AV)},(∀r∈rows,p r)→∃l:List α,rows=l.map f∧∀x∈l,q x
 | [],_=>⟨[],rfl,fun x hx=>by simp at hx⟩
 |r::rows,h=>by
  obtain⟨x,rfl,hx⟩:=hf r (h r (List.mem_cons_self ..))
  obtain⟨l,rfl,hl⟩:=aiE hf (fun r hr=>h r (List.mem_cons_of_mem _ hr))
  exact⟨x::l,rfl,fun y hy=>by
   rcases abM.1 hy with rfl|hy
   ·exact hx
   ·exact hl y hy⟩
def i64(n:Int):Prop:= -9223372036854775808≤n∧n≤9223372036854775807
theorem aeI{n:Nat}{r:List AV}(h:Ty Try.prog (n+1) 3 r):∃x,r=[.int .i64 x]∧i64 x:=by
 simp only[Ty,Try.underlying3]at h
 obtain⟨x,rfl,h1,h2⟩:=h
 exact⟨x,rfl,h1,h2⟩
theorem ap2{n:Nat}{r:List AV}(h:Ty Try.prog (n+1) 4 r):∃x,r=[.bool x]:=by
 simp only[Ty,Try.underlying4]at h
 exact h
theorem apN{n:Nat}{r:List AV}(h:Ty Try.prog (n+2) 25 r):∃(nn:Bool) (l:List Int),r=[slv 1 true nn (l.map iv)]∧l.length≤maxLen∧∀x∈l,i64 x:=by
 unfold Ty at h
 simp only[Try.underlying25]at h
 obtain⟨nn,rows,rfl,hl,hrows⟩:=h
 obtain⟨l,rfl,hi⟩:=aiE (f:=iv) (q:=i64) (fun r hr=>by obtain⟨x,rfl,hx⟩:=aeI hr;exact⟨x,rfl,hx⟩) hrows
 have e1:Try.prog.cellsOf 3=1:=by kernel_rfl
 have e2:flT Try.prog (n+1) 3=true:=by
  simp only[flT,Try.underlying3]
 rw[e1,e2]
 exact⟨nn,l,rfl,by simpa using hl,hi⟩
theorem aFQ{n:Nat}{r:List AV}(h:Ty Try.prog (n+2) 50 r):∃x:aaZ,r=x.cells∧True:=by
 unfold Ty at h
 simp only[Try.underlying50,aq8]at h
 obtain⟨a0,b0,rfl,h0,a1,b1,rfl,h1,a2,b2,rfl,h2,rfl⟩:=h
 obtain⟨x0,rfl,_⟩:=aeI h0
 obtain⟨x1,rfl,_⟩:=aeI h1
 obtain⟨x2,rfl⟩:=ap2 h2
 exact⟨⟨x0,x1,x2⟩,rfl,trivial⟩
theorem aB6{n:Nat}{r:List AV}(h:Ty Try.prog (n+2) 56 r):∃x:aaO,r=x.cells∧True:=by
 unfold Ty at h
 simp only[Try.underlying56,aq8]at h
 obtain⟨a0,b0,rfl,h0,a1,b1,rfl,h1,rfl⟩:=h
 obtain⟨x0,rfl,_⟩:=aeI h0
 obtain⟨x1,rfl⟩:=ap2 h1
 exact⟨⟨x0,x1⟩,rfl,trivial⟩
theorem aCP{n:Nat}{r:List AV}(h:Ty Try.prog (n+3) 48 r):∃x:aaL,r=x.cells∧x.sens.length≤maxLen:=by
 unfold Ty at h
 simp only[Try.underlying48,aq8]at h
 obtain⟨a0,b0,rfl,h0,a1,b1,rfl,h1,a2,b2,rfl,h2,a3,b3,rfl,h3,rfl⟩:=h
 obtain⟨nn,l,rfl,hl,_⟩:=apN h0
 obtain⟨x1,rfl,_⟩:=aeI h1
 obtain⟨x2,rfl,_⟩:=aeI h2
 obtain⟨x3,rfl⟩:=ap2 h3
 exact⟨⟨nn,l,x1,x2,x3⟩,rfl,hl⟩
theorem aCH{n:Nat}{r:List AV}(h:Ty Try.prog (n+4) 59 r):∃x:aaM,r=x.cells∧x.wants.length≤maxLen:=by
 unfold Ty at h
 simp only[Try.underlying59,aq8]at h
 obtain⟨a0,b0,rfl,h0,a1,b1,rfl,h1,a2,b2,rfl,h2,a3,b3,rfl,h3,a4,b4,rfl,h4,rfl⟩:=h
 obtain⟨x0,rfl,_⟩:=aeI h0
 obtain⟨x1,rfl,_⟩:=aeI h1
 obtain⟨x3,rfl,_⟩:=aeI h3
 obtain⟨x4,rfl,_⟩:=aeI h4
 unfold Ty at h2
 simp only[Try.underlying57]at h2
 obtain⟨nn,rows,rfl,hl,hrows⟩:=h2
 obtain⟨l,rfl,_⟩:=aiE (fun r hr=>aB6 hr) hrows
 have e1:Try.prog.cellsOf 56=2:=by kernel_rfl
 have e2:flT Try.prog (n+2) 56=true:=by
  simp only[flT,Try.underlying56,Try.underlying3,Try.underlying4];rfl
 rw[e1,e2]
 exact⟨⟨x0,x1,nn,l,x3,x4⟩,rfl,by simpa using hl⟩
theorem aCK{n:Nat}{r:List AV}(h:Ty Try.prog (n+6) 27 r):∃m:aa3,r=m.cells∧m.small:=by
 unfold Ty at h
 simp only[Try.underlying27,aq8]at h
 obtain⟨a0,b0,rfl,h0,a1,b1,rfl,h1,a2,b2,rfl,h2,a3,b3,rfl,h3,a4,b4,rfl,h4,a5,b5,rfl,h5,a6,b6,rfl,h6,rfl⟩:=h
 obtain⟨x3,rfl,_⟩:=aeI h3
 obtain⟨x4,rfl,_⟩:=aeI h4
 obtain⟨x5,rfl,_⟩:=aeI h5
 obtain⟨n6,l6,rfl,hl6,_⟩:=apN h6
 unfold Ty at h0 h1 h2
 simp only[Try.underlying22]at h0
 simp only[Try.underlying23]at h1
 simp only[Try.underlying24]at h2
 obtain⟨n0,rows0,rfl,hl0,hrows0⟩:=h0
 obtain⟨n1,rows1,rfl,hl1,hrows1⟩:=h1
 obtain⟨n2,rows2,rfl,hl2,hrows2⟩:=h2
 obtain⟨l0,rfl,_⟩:=aiE (fun r hr=>aFQ hr) hrows0
 obtain⟨l1,rfl,hv⟩:=aiE (fun r hr=>aCP hr) hrows1
 obtain⟨l2,rfl,hm⟩:=aiE (fun r hr=>aCH hr) hrows2
 have e0:Try.prog.cellsOf 50=3:=by kernel_rfl
 have e1:Try.prog.cellsOf 48=4:=by kernel_rfl
 have e2:Try.prog.cellsOf 59=5:=by kernel_rfl
 have f0:flT Try.prog (n+4) 50=true:=by
  simp only[flT,Try.underlying50,Try.underlying3,Try.underlying4];rfl
 have f1:flT Try.prog (n+4) 48=false:=by
  simp only[flT,Try.underlying48,Try.underlying25];simp
 have f2:flT Try.prog (n+4) 59=false:=by
  simp only[flT,Try.underlying59,Try.underlying57];simp
 rw[e0,e1,e2,f0,f1,f2]
 exact⟨⟨n0,l0,n1,l1,n2,l2,x3,x4,x5,n6,l6⟩,rfl,⟨by simpa using hl0,by simpa using hl1,by simpa using hl2,hl6,hv,hm⟩⟩
theorem aA6{av:AV}(h:TyV Try.prog 7 27 av):∃m:aa3,av=.agg m.cells∧m.small:=by
 unfold TyV at h
 simp only[Try.underlying27]at h
 obtain⟨cs,rfl,h⟩:=h
 obtain⟨s,rfl,hs⟩:=aCK h
 exact⟨s,rfl,hs⟩
theorem aB1{av:AV}(h:TyV Try.prog 7 25 av):∃(nn:Bool) (l:List Int),av=slv 1 true nn (l.map iv)∧l.length≤maxLen∧∀x∈l,i64 x:=by
 unfold TyV at h
 simp only[Try.underlying25]at h
 obtain⟨nn,l,hx,hl⟩:=apN h
 simp only[List.cons.injEq,and_true]at hx
 exact⟨nn,l,hx,hl⟩
theorem ajM(a:Int):(a==a)=true:=by simp
def bl(b:Int):Nat→Nat→List Bool
 |_,0=>[]
 |k,n+1=>adV b (k:Int)::bl b (k+1) n
theorem azA(b:Int):∀n k,(bl b k n).length=n
 |0,_=>rfl
 |n+1,k=>by simp[bl,azA b n]
theorem ax4(b:Int):∀n k i,i<n→(bl b k n)[i]?=some (adV b ((k+i:Nat):Int))
 |n+1,k,0,_=>by simp[bl]
 |n+1,k,i+1,h=>by
  simp only[bl,List.getElem?_cons_succ]
  rw[ax4 b n (k+1) i (by omega)]
  congr 3;omega
theorem aw1{m:aa3}{l:List Int}(h6:m.votes.length≤6):bl (aiJ m l m.votes 0 0) 0 m.votes.length=m.votes.map (ajH m l):=by
 apply List.ext_getElem?
 intro i
 by_cases hi:i<m.votes.length
 ·rw[ax4 _ _ _ _ hi,atO,aEP _ (by simpa using h6) i (by simpa using hi)]
  simp
 ·rw[amC (by rw[azA];omega),amC (by simp;omega)]
theorem aqR(m:aa3){l:List Int}{nn:Bool}(hs:m.small)(hl:l.length≤maxLen)(hn:(ac6 m&&aiL m l)=false):om'.call (.fn 25) [.agg [slv 3 true m.nS (m.sens.map aaZ.cells),slv 4 false m.nV (m.votes.map aaL.cells),slv 5 false m.nM (m.moves.map aaM.cells),.int .i64 m.states,.int .i64 m.cmds,.int .i64 m.bgn,slv 1 true m.nO (m.opn.map iv)],slv 1 true nn (l.map iv)] []=some (.ret (.tup [.nils,.int .i64 2]),[]):=by
 have h1:=al9 m hs
 have h2:=awX m (l:=l) (nn:=nn) hl
 cases c1:ac6 m with
 |false=>
  rw[c1]at h1
  (refine ce Try.func25 ?_;simp only[Try.f25];(have hb:=trivial;with_reducible repeat' (first|simp only[hb,Vc.down,seval,arW.down,h1]|refine fsp ?_ ?_<;>intro hb|refine fd ?_|fail)))
 |true=>
  rw[c1]at h1
  rw[c1]at hn
  simp only[abW]at hn
  rw[hn]at h2
  (refine ce Try.func25 ?_;simp only[Try.f25];(have hb:=trivial;with_reducible repeat' (first|simp only[hb,Vc.down,seval,arW.down,h1,h2]|refine fsp ?_ ?_<;>intro hb|refine fd ?_|fail)))
theorem auK(m:aa3){l:List Int}{nn:Bool}(hs:m.small)(hm:ac6 m=true)(hr:aiL m l=true)(hlm:l.length≤maxLen)(o:Out)(h':Rr)(c0:m.votes=[]→(o,h')=(.ret (.tup [.nils,.int .i64 0]),[]))(c1:m.votes≠[]→(o,h')=(.ret (.tup [.slr 1 0 0 m.votes.length,.int .i64 0]),[.live 1 true false ((m.votes.map (ajH m l)).map bv)])):
 om'.call (.fn 25) [.agg [slv 3 true m.nS (m.sens.map aaZ.cells),slv 4 false m.nV (m.votes.map aaL.cells),slv 5 false m.nM (m.moves.map aaM.cells),.int .i64 m.states,.int .i64 m.cmds,.int .i64 m.bgn,slv 1 true m.nO (m.opn.map iv)],slv 1 true nn (l.map iv)] []=some (o,h'):=by
 have h1:=al9 m hs
 have h2:=awX m (l:=l) (nn:=nn) hlm
 have h3:=atY m (l:=l) (nn:=nn) (anM hr) hs (arD hm)
 rw[hm]at h1
 rw[hr]at h2
 rw[←aw1 (m:=m) (l:=l) (apG hm)]at c1
 generalize aiJ m l m.votes 0 0=bits at *
 have hsv:=hs.votes
 have h6v:=apG hm
 (refine ce Try.func25 ?_;simp only[Try.f25];(have hb:=trivial;with_reducible repeat' (first|simp only[hb,Vc.down,seval,arW.down,h1,h2,h3,aaC]|refine fsp ?_ ?_<;>intro hb|refine fd ?_|fail)))
 refine ac3 (lst 37 m.votes (fun i (zz:List Bool) t h=>t 2=.ptr 0 0 0∧t 6=.int .i64 bits∧t 22=slv 4 false m.nV (m.votes.map aaL.cells)∧t 23=.int .i64 m.votes.length∧t 24=.int .i64 i∧(h[0]?=some (.live 7 false false [[slv 3 true m.nS (m.sens.map aaZ.cells),slv 4 false m.nV (m.votes.map aaL.cells),slv 5 false m.nM (m.moves.map aaM.cells),.int .i64 m.states,.int .i64 m.cmds,.int .i64 m.bgn,slv 1 true m.nO (m.opn.map iv)]])∧zz.length=i∧auG (t 7) i (zz.map bv) h)) (fun rest zz=>zz++bl bits zz.length rest.length) (fun r e t h=>e=.exit 0∧auG (t 7) m.votes.length (r.map bv) h) ?_ ?_ ([]) _ _ ?_) (fun e t h hk=>?_)
 ·rintro a t h Q' kQ ⟨h2,h6,h22,h23,h24,⟨hA,hp,hc⟩⟩
  (have hb:=trivial;with_reducible repeat' (first|simp only[hb,Vc.down,seval,arW.down,h2,h6,h22,h23,h24,aaD,decide_false,hA,aaC]|refine fsp ?_ ?_<;>intro hb|refine fd ?_|fail))
  exact kQ _ _ _ ⟨rfl,by simpa [up,bl]using hc⟩
 ·rintro x rest i a t h J Q' kJ kQ hx hi ⟨h2,h6,h22,h23,h24,⟨hA,hp,hc⟩⟩
  have hd:decide ((i:Int)<(m.votes.length:Int))=true:=decide_eq_true (by omega)
  have hw:=aaR hi hsv
  have hb1:(aGE (azD bits i)==1)=adV bits (i:Int):=by simp[adV]
  rcases hc with⟨rfl,ho⟩|⟨h0,b,hb0,ho,hb⟩
  ·simp only[akF]at hd
   have hs0:ad4 Try.prog .shr 3 (.int .i64 bits) (.int .i64 0)=some (.int .i64 (azD bits 0)):=axB _ bits 0
   (have hb:=trivial;with_reducible repeat' (first|simp only[hb,Vc.down,seval,arW.down,hs0,h2,h6,h22,h23,h24,ho,hd,hw,hA,hb1,aaC]|refine fsp ?_ ?_<;>intro hb|refine fd ?_|fail))
   obtain rfl:a=[]:=afB.1 hp
   (refine abE (kJ _ _ [adV bits 0] ⟨?_,?_,?_,?_,?_,⟨aa0 hA _,rfl,.inr ⟨by omega,h.length+1,by omega,by simp[up],by rw[apY];simp[bv,adV]⟩⟩⟩ ?_);(simp[up,h2]);(simp[up,h6]);(simp[up,h22]);(simp[up,h23]);(simp[up]);(simp[bl]))
  ·have hbl:b<h.length:=(ab6.1 hb).1
   have hB:=aa0 hb
   have hS:=atQ hbl
   have hlp:0+i=a.length:=by omega
   have hi39:(i+1≤549755813888)=True:=eq_true (by omega)
   (have hb:=trivial;with_reducible repeat' (first|simp only[hb,Vc.down,seval,arW.down,h2,h6,h22,h23,h24,ho,hd,hw,hA,hb1,aaC,hB,hS,akE,ae4,hp,hi39]|refine fsp ?_ ?_<;>intro hb|refine fd ?_|fail))
   (refine abE (kJ _ _ (a++[adV bits (i:Int)]) ⟨?_,?_,?_,?_,?_,⟨atM _ (by omega) hA _,by simp[hp],.inr ⟨by omega,h.length+1,by omega,by simp[up],by rw[akE];simp[bv,adV]⟩⟩⟩ ?_);(simp[up,h2]);(simp[up,h6]);(simp[up,h22]);(simp[up,h23]);(simp[up]);(simp[bl,hp]))
 ·exact⟨by simp[up,ent],by simp[up,ent],by simp[up,ent],by simp[up,ent],by simp[up],⟨rfl,rfl,.inl ⟨rfl,by simp[up]⟩⟩⟩
 obtain⟨rfl,⟨hn,ho⟩|⟨hn,b,hb0,ho,hb⟩⟩:=hk
 ·rw[c0 (afB.1 hn)]
  (have hb:=trivial;with_reducible repeat' (first|simp only[hb,Vc.down,seval,arW.down,ho]|refine fsp ?_ ?_<;>intro hb|refine fd ?_|fail))
 ·rw[c1 (fun e=>by rw[e]at hn;simp at hn)]
  simp only[List.nil_append,List.length_nil]at hb
  (with_reducible repeat' (first|simp only[hb,Vc.down,seval,arW.down,ho,hb]|refine fsp ?_ ?_<;>intro hb|refine fd ?_|fail))
theorem ak8{l:List Bool}{nn nn':Bool}(hl:l.length≤maxLen):om'.call (.fn 27) [slv 1 true nn (l.map bv),slv 1 true nn' (l.map bv)] []=some (.ret (.bool true),[]):=by
 have hl':((l.length:Int)==(l.length:Int))=true:=by simp
 (refine ce Try.func27 ?_;simp only[Try.f27];(have hb:=trivial;with_reducible repeat' (first|simp only[hb,Vc.down,seval,aBM.down,aaC,hl']|refine fsp ?_ ?_<;>intro hb|refine fd ?_|fail)))
 refine ac3 (lst 26 l (fun i (zz:Unit) t h=>t 0=slv 1 true nn (l.map bv)∧t 1=slv 1 true nn' (l.map bv)∧t 5=.int .i64 i∧(h=[])) (fun rest zz=>()) (fun r e t h=>e=.exit 0) ?_ ?_ () _ _ ?_) (fun e t h hk=>?_)
 ·rintro _ t h Q' kQ ⟨h0,h1,h5,rfl⟩
  (have hb:=trivial;with_reducible repeat' (first|simp only[hb,Vc.down,seval,aBM.down,h0,h1,h5,aaD,decide_false,aaC]|refine fsp ?_ ?_<;>intro hb|refine fd ?_|fail))
  exact kQ _ _ _ rfl
 ·rintro x rest i _ t h J Q' kJ kQ hx hi ⟨h0,h1,h5,rfl⟩
  have hd:decide ((i:Int)<(l.length:Int))=true:=decide_eq_true (by omega)
  have hw:=aaR hi hl
  have hbb:ad4 Try.prog .neq 4 (.bool x) (.bool x)=some (.bool false):=by rw[ayB];simp
  (have hb:=trivial;with_reducible repeat' (first|simp only[hb,Vc.down,seval,aBM.down,h0,h1,h5,hd,hx,hw,hbb,bv,aaC]|refine fsp ?_ ?_<;>intro hb|refine fd ?_|fail))
  (refine abE (kJ _ _ () ⟨?_,?_,?_,rfl⟩ ?_);(simp[up,h0]);(simp[up,h1]);(simp[up]);exact rfl)
 ·exact⟨by simp[up,ent],by simp[up,ent],by simp[up],rfl⟩
 obtain rfl:=hk
 (have hb:=trivial;with_reducible repeat' (first|simp only[hb,Vc.down,seval,aBM.down]|refine fsp ?_ ?_<;>intro hb|refine fd ?_|fail))
theorem ap5(hk:om'.call (.fn 13) [] []=some (.ret (.bool true),[]))(m:aa3)(l:List Int)(nn:Bool)(hs:m.small)(hl:l.length≤maxLen):
 om'.call (.fn 8) [.agg [slv 3 true m.nS (m.sens.map aaZ.cells),slv 4 false m.nV (m.votes.map aaL.cells),slv 5 false m.nM (m.moves.map aaM.cells),.int .i64 m.states,.int .i64 m.cmds,.int .i64 m.bgn,slv 1 true m.nO (m.opn.map iv)],slv 1 true nn (l.map iv)] []=some (.ret (.bool true),[]):=by
 have h1:=aB8 m hs
 have h2:=aCR m hs
 have h3:=awA m hs
 have h4:=asS m (l:=l) (nn:=nn) hl
 have l1:decide ((20:Int)<(l.length:Int))=decide (20<l.length):=by rw[decide_eq_decide];omega
 cases c1:amZ m with
 |false=>
  rw[c1]at h1
  (refine ce Try.func8 ?_;simp only[Try.f8];(have hb:=trivial;with_reducible repeat' (first|simp only[hb,Vc.down,seval,TY8.down,h1,hk]|refine fsp ?_ ?_<;>intro hb|refine fd ?_|fail)))
 |true=>
 rw[c1]at h1
 cases c2:decide (20<l.length)with
 |true=>
  (refine ce Try.func8 ?_;simp only[Try.f8];(have hb:=trivial;with_reducible repeat' (first|simp only[hb,Vc.down,seval,TY8.down,h1,l1,c2,hk,aaC]|refine fsp ?_ ?_<;>intro hb|refine fd ?_|fail)))
 |false=>
 cases c3:ac6 m with
 |false=>
  rw[c3]at h3
  rw[if_neg (by simp[c3])]at h2
  have h5:=aqR m (nn:=nn) hs hl (by simp[c3])
  (refine ce Try.func8 ?_;simp only[Try.f8];(have hb:=trivial;with_reducible repeat' (first|simp only[hb,Vc.down,seval,TY8.down,h1,h2,h3,h5,hk,l1,c2,ajM,agI,aaC]|refine fsp ?_ ?_<;>intro hb|refine fd ?_|fail)))
 |true=>
 rw[c3]at h3
 rw[if_pos c3]at h2
 cases c4:aiL m l with
 |false=>
  rw[c4]at h4
  have h5:=aqR m (nn:=nn) hs hl (by simp[c4])
  (refine ce Try.func8 ?_;simp only[Try.f8];(have hb:=trivial;with_reducible repeat' (first|simp only[hb,Vc.down,seval,TY8.down,h1,h2,h3,h4,h5,hk,l1,c2,ajM,agI,aaC]|refine fsp ?_ ?_<;>intro hb|refine fd ?_|fail)))
 |true=>
 rw[c4]at h4
 have h6:=apG c3
 have hI:=arD c3
 by_cases hn:m.votes=[]
 ·have h5:=auK m (nn:=nn) hs c3 c4 hl _ _ (fun _=>rfl) (fun h=>(h hn).elim)
  have h7:=atT m (nn:=nn) (anM c4) hs h6 hI _ _ (fun _=>rfl) (fun h=>(h hn).elim)
  have h8:=ak8 (l:=[]) (nn:=false) (nn':=false) (by simp)
  rw[List.map_nil,aAY]at h8
  (refine ce Try.func8 ?_;simp only[Try.f8];(have hb:=trivial;with_reducible repeat' (first|simp only[hb,Vc.down,seval,TY8.down,h1,h2,h3,h4,h5,h7,h8,hk,l1,c2,ajM,agI,aaC]|refine fsp ?_ ?_<;>intro hb|refine fd ?_|fail)))
 ·have h5:=auK m (nn:=nn) hs c3 c4 hl _ _ (fun h=>(hn h).elim) (fun _=>rfl)
  have h7:=atT m (nn:=nn) (anM c4) hs h6 hI _ _ (fun h=>(hn h).elim) (fun _=>rfl)
  have h8:=ak8 (l:=m.votes.map (ajH m l)) (nn:=true) (nn':=true) (by rw[aaC];exact hs.votes)
  rw[ar9]at h8
  have htk:((m.votes.map (ajH m l)).map bv).take m.votes.length=(m.votes.map (ajH m l)).map bv:=List.take_of_length_le (by simp)
  (refine ce Try.func8 ?_;simp only[Try.f8];(have hb:=trivial;with_reducible repeat' (first|simp only[hb,Vc.down,seval,TY8.down,h1,h2,h3,h4,h5,h7,h8,hk,l1,c2,htk,ajM,agI,aaC]|refine fsp ?_ ?_<;>intro hb|refine fdl ?_|fail)))
theorem ap9(hk:om'.call (.fn 13) [] []=some (.ret (.bool true),[])):∀avs,au6 Try.prog 7 Try.f8.params.toList avs→om'.call (.fn 8) avs []=some (.ret (.bool true),[]):=by
 intro avs h
 rw[show Try.f8.params.toList=[27,25]from rfl]at h
 match avs,h with
 | [a,b],h=>
   obtain⟨h1,h2,_⟩:=h
   obtain⟨s,rfl,hs⟩:=aA6 h1
   obtain⟨nn,x,rfl,hx,_⟩:=aB1 h2
   exact ap5 hk s x nn hs hx
 | [],h=>exact h.elim
 | [_],h=>exact h.2.elim
 |_::_::_::_,h=>exact h.2.2.elim
end Go.Proofs.Ytfkokgjfpojeoaa
