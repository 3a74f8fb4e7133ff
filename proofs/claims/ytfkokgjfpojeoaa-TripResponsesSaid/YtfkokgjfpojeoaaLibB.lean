/- The evaluator and its soundness. -/
import Derived.Test.YtfkokgjfpojeoaaLibA
import Derived.MapKept
open Option renaming bind_eq_some_iff→acL,map_eq_some_iff→acZ,some→aCF,map_some→aOW
open List renaming getElem?_eq_getElem→acR,mem_of_getElem?→aqD,getElem?_eq_some_iff→aAM,mem_iff_getElem→aAN,mem_cons_of_mem→aAO,mem_cons_self→aAP,mem_cons→aC6,prefix_refl→aER,any_eq_false→aG6,mem_append_right→aHM,mem_append_left→aIC,cons→aID,all_cons→aJZ,getD_eq_getElem?_getD→aKM,forIn_cons→aLD,all_eq_true→aLE,mem_flatMap→aLF,idxOf?_eq_none_iff→aLG,mem_append→aLH,mem_singleton→aLI,getElem_inj→aOD,range_eq_range'→aOX,getElem?_eq_none_iff→aOZ,getElem?_take→aPH,getElem?_drop→aQ7,idxOf?_eq_some_iff→aRG,any_eq_true→aR1
open Bool renaming and_eq_true→aC7,or_eq_false_iff→aRF
open Array renaming getElem?_eq_some_iff→aEO,getElem?_eq_getElem→aM9,forIn_toList→aON,getElem?_eq_none→aOY,getElem?_toList→aPA
open Nat renaming le_refl→aE9,lt_or_ge→aHJ
set_option linter.unusedSimpArgs false
set_option linter.unusedVariables false
namespace Go.Ev
open Go.RowKit
section
variable {P:Program} {w:World} {S:Nat→Prop} {ρ:Bq} {g:HF}
theorem aC1(H:HR w S ρ g){b:Nat}{kvs:List AV}(h:afH g b=some kvs){cm:Value}(hx:VR w S ρ (.mapr b) cm):
 ∃l es ck,cm=.map (some l)∧ρ b=.lp l∧w.heap[l]?=some (.map es ck)∧LR w S ρ kvs (kvL es.toList)∧g b=some (.lp [] .skip .skip kvs .map):=by
 unfold afH at h
 split at h
 ·rename_i kvs' hg
  simp at h;subst h
  cases hx with
  |maprD hd=>rw[H.dead b hd]at hg;cases hg
  | @mapr _ _ l hb=>
    obtain⟨o,ps,asg,body,tmps,st,h1,h2,h3⟩:=H.lps b l hb
    rw[hg]at h2;cases h2
    cases h3 with
    |loop h3=>exact(h3.state).elim
    | @map es ck _ h3=>exact⟨l,es,ck,rfl,hb,h1,h3,hg⟩
 ·simp at h
theorem aGI:∀(a b:List MapEntry),kvL (a++b)=kvL a++kvL b
 | [],b=>rfl
 |e::a,b=>by simp[kvL,aGI a b]
theorem aHK{kt:TypeId}{d:TypeDesc}(hd:P.underlying kt=some d){k a:AV}{ck ca:Value}{r:Bool}(h:aEq P 12 kt k a=some r)(hk:VR w S ρ k ck)(ha:VR w S ρ a ca):
 Instr.sameNow d ck ca=none∨Instr.sameNow d ck ca=some r:=by
 unfold aEq at h
 rw[hd]at h
 split at h
 case h_1 he=>cases he;simp at h;subst h;cases hk;cases ha;right;rfl
 case h_2 he=>cases he;simp at h;obtain⟨rfl,rfl⟩:=h;cases hk;cases ha;right;simp[Instr.sameNow]
 case h_3 he=>
  cases he;simp at h;subst h;cases hk;cases ha;right
  simp only[Instr.sameNow,aCF.injEq]
  rename_i x y
  obtain⟨⟨x⟩⟩:=x
  obtain⟨⟨y⟩⟩:=y
  rw[Bool.eq_iff_iff,MapKept.bytes_beq]
  simp
 all_goals first
  |(rename_i he;cases he;left;rfl)
  |(simp at h;done)
theorem aGV{kt:TypeId}{d:TypeDesc}(hd:P.underlying kt=some d){k:AV}{ck:Value}(hk:VR w S ρ k ck):∀{kvs:List AV} {es:List MapEntry} {i:Nat} {r:Option (Nat × AV)},ae8 P kt k kvs i=some r→LR w S ρ kvs (kvL es)→
 ∃cr,(Instr.findAsking kt ck es i).run P w=.ok cr w∧(Instr.findNow d ck es i=none∨Instr.findNow d ck es i=some cr)∧
  ((r=none∧cr=none)∨∃n v e kk,r=some (i+n,v)∧cr=some (i+n,e.val)∧es[n]?=some e∧kvs[2*n]?=some kk∧VR w S ρ kk e.key∧VR w S ρ v e.val)
 | [],es,i,r,h,hl=>by
   simp[ae8]at h;subst h
   have:=hl.nil_inv
   cases es with
   |nil=>exact⟨none,by simp[Instr.findAsking],.inr rfl,.inl ⟨rfl,rfl⟩⟩
   |cons e es=>simp[kvL]at this
 | [_],es,i,r,h,hl=>by simp[ae8]at h
 |a::v::kvs,es,i,r,h,hl=>by
  cases es with
  |nil=>have:=hl.1;simp[kvL]at this
  |cons e es=>
   obtain⟨c1,cs1,e1,k1,hl⟩:=hl.cons_inv
   simp only[kvL,aID.injEq]at e1
   obtain⟨rfl,rfl⟩:=e1
   obtain⟨c2,cs2,e2,k2,hl⟩:=hl.cons_inv
   simp only[aID.injEq]at e2
   obtain⟨rfl,rfl⟩:=e2
   simp only[ae8,acL]at h
   obtain⟨q,hq,h⟩:=h
   have hrun:(Op.equal kt ck e.key).run P w=.ok q w:=xJ 12 hq hk k1 10000 (by omega)
   have hn:=aHK hd hq hk k1
   cases q with
   |true=>
    simp at h;subst h
    refine⟨some (i,e.val),by simp[Instr.findAsking,hrun],?_,.inr ⟨0,v,e,a,rfl,rfl,rfl,rfl,k1,k2⟩⟩
    rcases hn with hn|hn
    ·left;simp[Instr.findNow,hn]
    ·right;simp[Instr.findNow,hn]
   |false=>
    simp at h
    obtain⟨cr,h1,h2,h3⟩:=aGV hd hk h hl
    refine⟨cr,by simp[Instr.findAsking,hrun,h1],?_,?_⟩
    ·rcases hn with hn|hn
     ·left;simp[Instr.findNow,hn]
     ·rcases h2 with h2|h2
      ·left;simp[Instr.findNow,hn,h2]
      ·right;simp[Instr.findNow,hn,h2]
    ·rcases h3 with h3|⟨n,v',e',kk,q1,q2,q3,q4,q5,q6⟩
     ·exact .inl h3
     ·refine .inr ⟨n+1,v',e',kk,by rw[q1];congr 2;omega,by rw[q2];congr 2;omega,by simpa using q3,?_,q5,q6⟩
      rw[show 2*(n+1)=2*n+2 by omega];simpa using q4
theorem akZ{kt:TypeId}{d:TypeDesc}(hd:P.underlying kt=some d){k:AV}{ck:Value}(hk:VR w S ρ k ck){kvs:List AV}{es:List MapEntry}{r:Option (Nat × AV)}(h:ae8 P kt k kvs 0=some r)(hl:LR w S ρ kvs (kvL es)):
 ∃cr,(Instr.findKey kt ck es).run P w=.ok cr w∧
  ((r=none∧cr=none)∨∃n v e kk,r=some (n,v)∧cr=some (n,e.val)∧es[n]?=some e∧kvs[2*n]?=some kk∧VR w S ρ kk e.key∧VR w S ρ v e.val):=by
 obtain⟨cr,h1,h2,h3⟩:=aGV hd hk h hl
 refine⟨cr,?_,by simpa using h3⟩
 rcases h2 with h2|h2
 ·simp[Instr.findKey,run_underlying hd,h2,h1]
 ·simp[Instr.findKey,run_underlying hd,h2]
theorem aYJ{d:Nat}{t:TypeId}{k:AV}(h:aDR P d t k=true):∃dk,P.underlying t=some dk:=by
 cases d with
 |zero=>simp[aDR]at h
 |succ d=>
  unfold aDR at h
  split at h<;>first|exact⟨_,‹_›⟩|(simp at h;done)
theorem aMP{t:TypeId}{k:AV}(h:aK7 P t k=true):∃dk,P.underlying t=some dk:=by
 unfold aK7 at h
 exact aYJ (aC7 _ _▸h).1
theorem adO(em:Bool):∀(d:Nat) {kt:TypeId} {k:AV} {ck:Value},aDR P d kt k=true→VR w S ρ k ck→∀D,d≤D→(Instr.checkKey em D kt ck).run P w=.ok () w
 |0,_,_,_,h,_,_,_=>by simp[aDR]at h
 |d+1,kt,k,ck,h,hk,D,hD=>by
  obtain⟨D,rfl⟩:∃D',D=D'+1:=⟨D-1,by omega⟩
  unfold aDR at h
  split at h
  ·rename_i hu;simp[Instr.checkKey,run_underlying hu]
  ·rename_i hu;simp[Instr.checkKey,run_underlying hu]
  ·rename_i hu;simp[Instr.checkKey,run_underlying hu]
  ·rename_i fs cs hu
   cases hk with
   | @agg _ _ vs hl hc=>
     rw[Instr.checkKey]
     simp only[Sem.run_bind,run_underlying hu,Result.andThen_ok]
     rw[←aON]
     generalize fs.toList=L at h
     induction L with
     |nil=>simp
     |cons f L ih=>
      simp only[aJZ,aC7]at h
      obtain⟨h0,hr⟩:=h
      obtain⟨a,ha,hka⟩:∃a,aEq.partOf P f.type cs f.offset=some a∧aDR P d f.type a=true:=by
       cases e:aEq.partOf P f.type cs f.offset with
       |none=>rw[e]at h0;simp at h0
       |some a=>rw[e]at h0;exact⟨a,rfl,by simpa using h0⟩
      unfold aEq.partOf at ha
      obtain⟨isA,hA,ha⟩:=acL.1 ha
      obtain⟨ca,h1,h2⟩:=Ta hA hl hc ha
      have hb:=adO em d hka h2 D (by omega)
      have ih':=ih hr
      by_cases hn:f.name= "_"
      ·simp only[aLD,Sem.run_bind,hn,ne_eq,not_true_eq_false,if_false,Sem.run_pure,Result.andThen_ok]
       exact ih'
      ·simp only[aLD,Sem.run_bind,hn,ne_eq,not_false_eq_true,if_true,h1,hb,Result.andThen_ok,Sem.run_pure]
       exact ih'
  ·rename_i n e cs hu
   cases hsz:mV P e with
   |none=>rw[hsz]at h;simp at h
   |some sz=>
    rw[hsz]at h
    simp only[aOW,Option.getD_some]at h
    cases hk with
    | @agg _ _ vs hl hc=>
      rw[Instr.checkKey]
      simp only[Sem.run_bind,run_underlying hu,Result.andThen_ok]
      simp only[Std.Legacy.Range.forIn_eq_forIn_range',Std.Legacy.Range.size,Nat.sub_zero,Nat.add_one_sub_one,Nat.div_one]
      rw[aOX]at h
      generalize List.range' 0 n=L at h
      induction L with
      |nil=>simp
      |cons i L ih=>
       simp only[aJZ,aC7]at h
       obtain⟨h0,hr⟩:=h
       obtain⟨a,ha,hka⟩:∃a,aEq.partOf P e cs (i*sz)=some a∧aDR P d e a=true:=by
        cases e':aEq.partOf P e cs (i*sz)with
        |none=>rw[e']at h0;simp at h0
        |some a=>rw[e']at h0;exact⟨a,rfl,by simpa using h0⟩
       unfold aEq.partOf at ha
       obtain⟨isA,hA,ha⟩:=acL.1 ha
       obtain⟨ca,h1,h2⟩:=Ta hA hl hc ha
       have hb:=adO em d hka h2 D (by omega)
       have ih':=ih hr
       have hrs:=Ey (w:=w) hsz
       simp only[aLD,Sem.run_bind,hrs,h1,hb,Result.andThen_ok,Sem.run_pure]
       exact ih'
  ·simp at h
theorem aeW{kt:TypeId}{k:AV}{ck:Value}(h:aK7 P kt k=true)(hk:VR w S ρ k ck)(em:Bool):(Instr.checkKey em 10000 kt ck).run P w=.ok () w:=by
 unfold aK7 at h
 exact adO em 5 (aC7 _ _▸h).1 hk 10000 (by omega)
theorem aKA(H:HR w S ρ g){t:TypeId}{m k:AV}{ok:Bool}{d:Kx}(h:Wq P g t m k ok=some d){cm ck:Value}(hm:VR w S ρ m cm)(hk:VR w S ρ k ck):
 ∃cv,(Instr.lookup t cm ck ok).run P w=.ok cv w∧VR w S ρ d.v cv∧d.es=[]:=by
 unfold Wq at h
 split at h
 ·rename_i kt vt b hu
  split at h
  ·rename_i hkt
   simp only[acL]at h
   obtain⟨kvs,hkv,r,hr,z,hz,h⟩:=h
   obtain⟨l,es,c0,rfl,hb,h1,h2,_⟩:=aC1 H hkv hm
   obtain⟨dk,hdk⟩:=aMP hkt
   obtain⟨cr,h3,h4⟩:=akZ hdk hk hr h2
   obtain⟨i,cz,hi,hiz,hov,hrun⟩:=mR hz
   have hck:=aeW hkt hk es.isEmpty
   simp only[aCF.injEq]at h
   subst h
   have fin:∀(cv:Value) (av:AV) (f:Bool),VR w S ρ av cv→VR w S ρ (bif ok then .tup [av,.bool f]else av) (if ok then .tuple #[cv,.bool f]else cv):=fun cv av f hv=>by
    cases ok with
    |false=>simpa using hv
    |true=>
     refine .tup rfl (fun i x u hx hu=>?_)
     match i,hx,hu with
     |0,hx,hu=>simp at hx hu;subst hx hu;exact hv
     |1,hx,hu=>simp at hx hu;subst hx hu;exact .bool _
     |_+2,hx,_=>simp at hx
   rcases h4 with⟨rfl,rfl⟩|⟨n,v,e,kk,rfl,rfl,_,_,_,q6⟩
   ·exact⟨_,by simp[Instr.lookup,run_underlying hu,MapKept.run_getObj_map h1,hck,h3,hrun],fin cz z false (Rr hov),rfl⟩
   ·exact⟨_,by simp[Instr.lookup,run_underlying hu,MapKept.run_getObj_map h1,hck,h3],fin e.val v true q6,rfl⟩
  ·simp at h
 ·simp at h
def aSF:Obj→Bool
 | .map _ _=>true
 | .stringIter _ _=>true
 |_=>false
theorem adB{o:Obj}(h:aSF o=true):iV o=true∧(∀c e f,o≠.cells c e f)∧∀r,o≠.loop r:=by
 cases o<;>simp[aSF,iV]at h ⊢
theorem Ix.setMap{b l:Nat}(hb:ρ b=.lp l)(hS:¬S l){o0:Obj}(hr:w.heap[l]?=some o0)(h0:aSF o0=true)(o:Obj):Ix w (Ev.setB w l o) S S ρ ρ where
 size:=by simp[Ev.setB]
 os:=rfl
 tape:=rfl
 output:=rfl
 keep:=fun b hb=>Cd (fun e=>hS (e▸hb))
 sub:=fun _ h=>h
 le:=ρ.le_refl
 other:=fun b' _ _ hn=>Cd (fun e=>hn b (by rw[e];exact hb))
 rng:=fun id _ co st sz h=>.inr ⟨id,co,st,sz,h⟩
 grow:=fun _ h=>.inl h
 objs:=fun b o' hb ho=>by rw[Cd (fun e=>by rw[e,hr]at hb;cases hb;rw[(adB h0).1]at ho;cases ho)];exact hb
 loops:=fun b' r' hb'=>⟨r'.state,r'.pending,by rw[Cd (fun e=>by rw[e,hr]at hb';cases hb';exact(adB h0).2.2 _ rfl)];exact hb'⟩
 lrng:=fun id _ h=>.inr ⟨id,h⟩
theorem HR.setObj(H:HR w S ρ g){b l:Nat}(hb:ρ b=.lp l){o0 o1:Obj}(hr:w.heap[l]?=some o0)(h0:aSF o0=true){kvs:List AV}{st:Yk}(hk:acO (Ev.setB w l o1) S ρ o1 [] .skip .skip kvs st):
 HR (Ev.setB w l o1) S ρ (upd g b (.lp [] .skip .skip kvs st)):=by
 have hs:=Ix.setMap hb (H.lnS b l hb) hr h0 o1
 refine⟨fun b' cb co st sz h=>?_,fun b' h=>?_,H.inj,fun b' h=>by have:=H.old b' h;simpa [Ev.setB]using this,fun b' l' h=>?_,H.linj,H.lnS⟩
 ·obtain⟨c,e,fz,fl,rows,h1,h2,h3,h4⟩:=H.at_ b' cb co st sz h
  have hne:b'≠b:=fun e=>by rw[e,hb]at h;cases h
  refine⟨c,e,fz,fl,rows,by rw[Cd (fun e=>by rw[e,hr]at h1;cases h1;exact(adB h0).2.1 _ _ _ rfl)];exact h1,h2,h3.sim hs,by simpa [upd,hne]using h4⟩
 ·have hne:b'≠b:=fun e=>by rw[e,hb]at h;cases h
  simpa [upd,hne]using H.dead b' h
 ·by_cases e:b'=b
  ·subst e
   rw[hb]at h;cases h
   exact⟨_,[],.skip,.skip,kvs,st,nG hr,by simp[upd],hk⟩
  ·obtain⟨r1,ps1,asg1,body1,tmps1,st1,h1,h2,h3⟩:=H.lps _ _ h
   have hne:l'≠l:=fun q=>e (H.linj _ _ _ h (q▸hb))
   exact⟨r1,ps1,asg1,body1,tmps1,st1,by rw[Cd hne];exact h1,by simpa [upd,e]using h2,h3.sim hs⟩
theorem HR.setMap(H:HR w S ρ g){b l:Nat}(hb:ρ b=.lp l){es es':Array MapEntry}{ck ck':Nat}(hr:w.heap[l]?=some (.map es ck)){kvs:List AV}(hk:LR w S ρ kvs (kvL es'.toList)):
 HR (Ev.setB w l (.map es' ck')) S ρ (upd g b (.lp [] .skip .skip kvs .map)):=
 H.setObj hb hr rfl (.map (LR.sim (Ix.setMap hb (H.lnS b l hb) hr rfl _) hk))
theorem jI.setMap(H:HR w S ρ g){b l:Nat}(hb:ρ b=.lp l)(E:Nat→Prop)(o:Obj):jI E w (Ev.setB w l o) ρ ρ:=fun b' cb co st sz h _=>⟨h,Cd (fun e=>H.apart hb (e▸h))⟩
theorem lQ.putMap{b l:Nat}(hb:ρ b=.lp l)(c:CB):lQ [.put b c] ρ ρ:=fun b'=>by
 simp[Kz,As.id];intro h' e;subst e;rw[hb]at h';cases h'
theorem aF4{x:AV}{u v:Value}(hf:x.flat=true)(hu:VR w S ρ x u)(hv:VR w S ρ x v):u=v:=by
 cases hu<;>first
  |(cases hv;rfl)
  |(simp[AV.flat]at hf;done)
  |(rename_i s;generalize hs:s.data.toList=l at hv;cases hv;rename_i s';obtain⟨⟨s⟩⟩:=s;obtain⟨⟨s'⟩⟩:=s';simp at hs;subst hs;rfl)
theorem aMY{x y:AV}{u v:Value}(h:x.same y=true)(hu:VR w S ρ x u)(hv:VR w S ρ y v):u=v∧x.flat=true:=by
 unfold AV.same at h
 split at h
 ·simp at h;subst h;exact⟨aF4 rfl hu hv,rfl⟩
 ·simp at h;obtain⟨rfl,rfl⟩:=h;exact⟨aF4 rfl hu hv,rfl⟩
 ·simp at h;subst h;exact⟨aF4 rfl hu hv,rfl⟩
 ·simp at h
theorem aj9{x:AV}{u:Value}(hf:x.flat=true)(hu:VR w S ρ x u)(n:Nat):Instr.sameBits n u u=true:=by
 cases hu<;>first
  |(simp[AV.flat]at hf;done)
  |(cases n<;>simp[Instr.sameBits];done)
  |(rename_i s;obtain⟨⟨s⟩⟩:=s;cases n<;>(simp only[Instr.sameBits];exact(MapKept.bytes_beq _ _).2 rfl))
theorem a0H{x y:AV}{u v:Value}(h:x.sameKey y=true)(hu:VR w S ρ x u)(hv:VR w S ρ y v):u=v∧Instr.sameBits 10000 u u=true:=by
 unfold AV.sameKey at h
 split at h
 ·rename_i xs ys
  simp only[aC7,beq_iff_eq,aLE]at h
  obtain⟨hlen,hall⟩:=h
  cases hu with
  | @agg _ _ us hlu hcu=>
  cases hv with
  | @agg _ _ vs hlv hcv=>
  have each:∀(i:Nat) (a:AV),xs[i]?=some a→us[i]?=vs[i]?∧∃q,us[i]?=some q∧Instr.sameBits 9999 q q=true:=fun i a ha=>by
   have hi:i<xs.length:=(aAM.1 ha).1
   have hy:ys[i]?=some (ys[i]'(by omega)):=acR _
   have hz:(xs.zip ys)[i]?=some (a,ys[i]'(by omega)):=by rw[List.getElem?_zip_eq_some];exact⟨ha,hy⟩
   have hs:=hall _ (aqD hz)
   have hu':us[i]?=some (us[i]'(by omega)):=aM9 _
   have hv':vs[i]?=some (vs[i]'(by omega)):=aM9 _
   obtain⟨q1,q2⟩:=aMY hs (hcu i a _ ha hu') (hcv i _ _ hy hv')
   exact⟨by rw[hu',hv',q1],_,hu',aj9 q2 (hcu i a _ ha hu') _⟩
  have heq:us=vs:=by
   apply Array.ext_getElem?
   intro i
   by_cases hi:i<xs.length
   ·exact(each i _ (acR hi)).1
   ·rw[aOY (by omega),aOY (by omega)]
  subst heq
  refine⟨rfl,?_⟩
  show Instr.sameBits (9999+1) (.agg us) (.agg us)=true
  simp only[Instr.sameBits,beq_self_eq_true,Bool.true_and,aLE]
  intro p hp
  obtain⟨i,hi,rfl⟩:=aAN.1 hp
  simp at hi
  obtain⟨_,q,h1,h2⟩:=each i _ (acR (by omega))
  simp only[List.getElem_zip,Array.getElem_toList]
  have h1':us[i]=q:=by rw[aM9 hi]at h1;exact aCF.inj h1
  rw[h1'];exact h2
 ·obtain⟨rfl,hf⟩:=aMY h hu hv
  exact⟨rfl,aj9 hf hu _⟩
theorem aqR(H:HR w S ρ g){t:TypeId}{m k v:AV}{d:Kx}(h:Rh P g t m k v=some d){cm ck cv:Value}(hm:VR w S ρ m cm)(hk:VR w S ρ k ck)(hv:VR w S ρ v cv):
 ∃w',(Instr.mapUpdate t cm ck cv).run P w=.ok () w'∧HR w' S ρ (Bt g d.es)∧Ix w w' S S ρ ρ∧d.v=.tup []∧jI (Kz d.es) w w' ρ ρ∧lQ d.es ρ ρ:=by
 unfold Rh at h
 split at h
 ·rename_i kt vt b hu
  split at h
  ·rename_i hkt
   simp only[acL]at h
   obtain⟨kvs,hkv,r,hr,h⟩:=h
   obtain⟨l,es,c0,rfl,hb,h1,h2,hg⟩:=aC1 H hkv hm
   obtain⟨dk,hdk⟩:=aMP hkt
   obtain⟨cr,h3,h4⟩:=akZ hdk hk hr h2
   have hck:=aeW hkt hk false
   have hS:=H.lnS b l hb
   rcases h4 with⟨rfl,rfl⟩|⟨n,v0,e,kk,rfl,rfl,q3,q4,q5,q6⟩
   ·simp at h;subst h
    refine⟨setB w l (.map (es.push { key:=ck,val:=cv,born:=c0 }) (c0+1)),?_,?_,Ix.setMap hb hS h1 rfl _,rfl,jI.setMap H hb _ _,lQ.putMap hb _⟩
    ·simp[Instr.mapUpdate,run_underlying hu,MapKept.run_getObj_map h1,hck,h3,MapKept.run_setObj_map _ h1,setB]
    ·simp only[Bt,Dq]
     refine H.setMap hb h1 ?_
     rw[Array.toList_push,aGI]
     exact h2.append (.cons hk (.cons hv .nil))
   ·simp only at h
    split at h
    ·rename_i hsame
     simp at h;subst h
     rw[q4]at hsame
     simp at hsame
     obtain⟨he,hbits⟩:=a0H hsame hk q5
     have hes:es[n]?=some e:=by simpa using q3
     refine⟨setB w l (.map (es.modify n fun e=>{ e with key:=ck,val:=cv }) c0),?_,?_,Ix.setMap hb hS h1 rfl _,rfl,jI.setMap H hb _ _,lQ.putMap hb _⟩
     ·have hst:(Instr.keyThatStays e.key ck).run P w=.ok ck w:=by rw[←he];simp[Instr.keyThatStays,hbits]
      simp[Instr.mapUpdate,run_underlying hu,MapKept.run_getObj_map h1,hck,h3,hes,hst,MapKept.run_setObj_map _ h1,setB]
     ·simp only[Bt,Dq]
      refine H.setMap hb h1 ?_
      have hkv2:kvL (es.modify n fun e=>{ e with key:=ck,val:=cv }).toList=(kvL es.toList).set (2*n+1) cv:=by
       rw[Array.toList_modify]
       generalize es.toList=L at q3
       clear h2 h3 hes h1 hr q4
       induction L generalizing n with
       |nil=>simp at q3
       |cons a L ih=>
        cases n with
        |zero=>simp at q3;subst q3;simp[kvL,he]
        |succ n=>
         simp at q3
         simp only[List.modify_succ_cons,kvL]
         rw[show 2*(n+1)+1=(2*n+1)+2 by omega]
         simp only[List.set_cons_succ]
         rw[ih]
         exact q3
      rw[hkv2]
      exact h2.set _ hv
    ·simp at h
  ·simp at h
 ·simp at h
theorem Ix.allocMap{base:Nat}(hb:ρ base=.fresh)(hS:∀b,S b→b<w.heap.size)(o:Obj):Ix w (w.alloc o) S S ρ (ρ.put base (.lp w.heap.size)) where
 size:=by simp
 os:=rfl
 tape:=rfl
 output:=rfl
 keep:=fun b hb=>Ez (hS b hb)
 sub:=fun _ h=>h
 le:=Bq.le_put_fresh hb _
 other:=fun b h _ _=>Ez h
 rng:=fun id cb co' st' sz' h=>by
  by_cases hi:id=base
  ·subst hi;rw[Bq.put_same]at h;cases h
  ·rw[Bq.put_other _ _ hi]at h;exact .inr ⟨id,_,_,_,h⟩
 grow:=fun _ h=>.inl h
 objs:=fun b o' hb _=>by rw[Ez (aEO.1 hb).1];exact hb
 loops:=fun b r hb=>⟨r.state,r.pending,by rw[Ez (aEO.1 hb).1];exact hb⟩
 lrng:=fun id l h=>by
  by_cases hi:id=base
  ·subst hi;rw[Bq.put_same]at h;cases h;exact .inl (aE9 _)
  ·rw[Bq.put_other _ _ hi]at h;exact .inr ⟨id,h⟩
theorem HR.allocObj(H:HR w S ρ g){base:Nat}(hb:ρ base=.fresh){o:Obj}{kvs:List AV}{Wy:Yk}(ho:acO (w.alloc o) S (ρ.put base (.lp w.heap.size)) o [] .skip .skip kvs Wy):HR (w.alloc o) S (ρ.put base (.lp w.heap.size)) (upd g base (.lp [] .skip .skip kvs Wy)):=by
 have hs:=Ix.allocMap hb H.old o
 have lplt:∀b l,ρ b=.lp l→l<w.heap.size:=fun b l hb=>by
  obtain⟨_,_,_,_,_,_,h1,_⟩:=H.lps b l hb;exact(aEO.1 h1).1
 have off:∀x z,x≠base→ρ.put base (.lp w.heap.size) x=z→ρ x=z:=fun x z hx h=>by rw[Bq.put_other _ _ hx]at h;exact h
 have npl:∀x cb c1 s1 z1,ρ.put base (.lp w.heap.size) x=.pl cb c1 s1 z1→x≠base:=fun x cb c1 s1 z1 hx e=>by rw[e,Bq.put_same]at hx;cases hx
 refine⟨fun b cb co st sz h=>?_,fun b h=>?_,fun b1 b2 cb co st sz co' st' sz' h1 h2=>?_,fun b h=>by have:=H.old b h;simp;omega,fun b l h=>?_,fun b1 b2 l h1 h2=>?_,fun b l h hS=>?_⟩
 ·have e:=npl _ _ _ _ _ h
  obtain⟨c,e',fz,fl,rows,h1,h2,h3,h4⟩:=H.at_ b cb co st sz (off _ _ e h)
  exact⟨c,e',fz,fl,rows,by rw[Ez (aEO.1 h1).1];exact h1,h2,h3.sim hs,by simpa [upd,e]using h4⟩
 ·have e:b≠base:=fun e=>by rw[e,Bq.put_same]at h;cases h
  simpa [upd,e]using H.dead b (off _ _ e h)
 ·exact H.inj _ _ _ _ _ _ _ _ _ (off _ _ (npl _ _ _ _ _ h1) h1) (off _ _ (npl _ _ _ _ _ h2) h2)
 ·by_cases e:b=base
  ·subst e;rw[Bq.put_same]at h;cases h
   exact⟨_,[],.skip,.skip,kvs,Wy,aiI,by simp[upd],ho⟩
  ·obtain⟨r,ps,asg,body,tmps,st,h1,h2,h3⟩:=H.lps b l (off _ _ e h)
   exact⟨r,ps,asg,body,tmps,st,by rw[Ez (aEO.1 h1).1];exact h1,by simpa [upd,e]using h2,h3.sim hs⟩
 ·by_cases e1:b1=base<;>by_cases e2:b2=base
  ·rw[e1,e2]
  ·rw[e1,Bq.put_same]at h1;cases h1;have:=lplt _ _ (off _ _ e2 h2);omega
  ·rw[e2,Bq.put_same]at h2;cases h2;have:=lplt _ _ (off _ _ e1 h1);omega
  ·exact H.linj _ _ _ (off _ _ e1 h1) (off _ _ e2 h2)
 ·by_cases e:b=base
  ·rw[e,Bq.put_same]at h;cases h;have:=H.old _ hS;omega
  ·exact H.lnS _ _ (off _ _ e h) hS
theorem lQ.allocMap{base l:Nat}(c:CB):lQ [.new base c] ρ (ρ.put base (.lp l)):=fun b=>by
 by_cases h:b=base
 ·subst h;rw[Bq.put_same];simp[Kz,As.id]
 ·rw[Bq.put_other _ _ h];simp[Kz,As.id];intro _ e;exact h e.symm
theorem aHH(H:HR w S ρ g){base:Nat}(hb:ρ base=.fresh)(t:TypeId):
 ∃cv w' ρ',(Instr.makeMap t none).run P w=.ok cv w'∧VR w' S ρ' (.mapr base) cv∧HR w' S ρ' (Bt g [.new base (.lp [] .skip .skip [] .map)])∧Ix w w' S S ρ ρ'∧jI (Kz [.new base (.lp [] .skip .skip [] .map)]) w w' ρ ρ'∧lQ [.new base (.lp [] .skip .skip [] .map)] ρ ρ':=
 ⟨.map (some w.heap.size),w.alloc (.map #[] 0),ρ.put base (.lp w.heap.size),by simp[Instr.makeMap],.mapr (Bq.put_same ..),H.allocObj hb (.map .nil),Ix.allocMap hb H.old _,jI.alloc H hb _ _ _,lQ.allocMap _⟩
theorem aMB(H:HR w S ρ g){base:Nat}(hb:ρ base=.fresh){t:TypeId}{x:AV}{cx:Value}{d:Kx}(h:aFX P base t x=some d)(hx:VR w S ρ x cx):
 ∃cv w' ρ',(Instr.range t cx).run P w=.ok cv w'∧VR w' S ρ' d.v cv∧HR w' S ρ' (Bt g d.es)∧Ix w w' S S ρ ρ'∧jI (Kz d.es) w w' ρ ρ'∧lQ d.es ρ ρ':=by
 unfold aFX at h
 split at h
 ·rename_i hu
  simp at h;subst h
  cases hx with
  |str s=>
   exact⟨.pointer (some ⟨w.heap.size,0,none⟩),w.alloc (.stringIter s 0),ρ.put base (.lp w.heap.size),by simp[Instr.range,run_underlying hu],.itr (Bq.put_same ..),H.allocObj hb (.itr (.cons (.str s) (.cons (.int _ _) .nil))),Ix.allocMap hb H.old _,jI.alloc H hb _ _ _,lQ.allocMap _⟩
 ·simp at h
theorem aXU(s:ByteArray)(p:Nat)(b:UInt8)(h:s.data.toList[p]?=some b):p<s.size∧s.get! p=b:=by
 obtain⟨a⟩:=s
 have h1:a[p]?=some b:=by simpa using h
 obtain⟨h2,h3⟩:=aEO.1 h1
 refine⟨h2,?_⟩
 exact(getElem!_pos a p h2).trans h3
theorem aMH{s:ByteArray}{p c n:Nat}(h:aGS s.data.toList p=some (c,n)):p<s.size∧Utf8.decode s p=(c,n):=by
 unfold aGS at h
 obtain⟨b,hb,h⟩:=acZ.1 h
 obtain⟨h1,h2⟩:=aXU s p b hb
 refine⟨h1,?_⟩
 split at h
 ·rename_i hl
  rw[←h]
  unfold Utf8.decode
  simp only[Nat.add_zero,h2]
  rw[if_pos hl]
 ·rw[←h]
theorem aOE{s:ByteArray}{p:Nat}(h:aGS s.data.toList p=none):¬p<s.size:=by
 unfold aGS at h
 have h1:=Option.map_eq_none_iff.1 h
 rw[aOZ]at h1
 have:s.size=s.data.toList.length:=by rw[Array.length_toList];rfl
 omega
theorem aQX(H:HR w S ρ g){x:AV}{d:Kx}(h:aC0 g x=some d){cx:Value}(hx:VR w S ρ x cx)(t:TypeId):
 ∃cv w',(Instr.next cx true t).run P w=.ok cv w'∧VR w' S ρ d.v cv∧HR w' S ρ (Bt g d.es)∧Ix w w' S S ρ ρ∧jI (Kz d.es) w w' ρ ρ∧lQ d.es ρ ρ:=by
 unfold aC0 at h
 split at h
 ·rename_i b
  split at h
  ·rename_i s p hg
   cases hx with
   |itrD hd=>rw[H.dead b hd]at hg;cases hg
   | @itr _ _ l hb=>
     obtain⟨o,ps,asg,body,tmps,st,h1,h2,h3⟩:=H.lps b l hb
     rw[hg]at h2;cases h2
     cases h3 with
     |loop h3=>exact(h3.state).elim
     | @itr cs pos _ h3=>
       have hS:=H.lnS b l hb
       obtain⟨c1,l1,e1,k1,h3⟩:=h3.cons_inv
       simp only[aID.injEq]at e1
       obtain⟨rfl,rfl⟩:=e1
       obtain⟨c2,l2,e2,k2,h3⟩:=h3.cons_inv
       simp only[aID.injEq]at e2
       obtain⟨rfl,rfl⟩:=e2
       cases k1
       cases k2
       have hget:(getObj l).run P w=.ok (.stringIter cs pos) w:=by simp[getObj,Sem.run,h1]
       simp only[Int.toNat_natCast]at h
       split at h
       ·rename_i c n hr
        obtain⟨r1,r2⟩:=aMH hr
        obtain rfl:=aCF.inj h
        have hset:∀o:Obj,(setObj l o).run P w=.ok () (setB w l o):=fun o=>by simp[setObj,Sem.run,h1,setB]
        refine⟨.tuple #[.bool true,goInt pos,.int .i32 c],setB w l (.stringIter cs (pos+n)),?_,?_,?_,Ix.setMap hb hS h1 rfl _,jI.setMap H hb _ _,lQ.putMap hb _⟩
        ·simp[Instr.next,hget,r1,r2,hset]
        ·refine .tup rfl (fun i x u hx hu=>?_)
         match i,hx,hu with
         |0,hx,hu=>simp at hx hu;subst hx hu;exact .bool _
         |1,hx,hu=>simp at hx hu;subst hx hu;exact .int _ _
         |2,hx,hu=>simp at hx hu;subst hx hu;exact .int _ _
         |_+3,hx,_=>simp at hx
        ·simp only[Bt,Dq]
         exact H.setObj hb h1 rfl (.itr (.cons (.str _) (.cons (.int _ _) .nil)))
       ·rename_i hr
        have r1:=aOE hr
        simp at h;subst h
        refine⟨.tuple #[.bool false],w,by simp[Instr.next,hget,r1],?_,H,Ix.refl _ _ _,jI.refl,lQ.refl⟩
        refine .tup rfl (fun i x u hx hu=>?_)
        match i,hx,hu with
        |0,hx,hu=>simp at hx hu;subst hx hu;exact .bool _
        |_+1,hx,_=>simp at hx
  ·simp at h
 ·simp at h
theorem aI7(f:Value→ByteArray→Sem (ForInStep ByteArray))(hf:∀n s,f (.int .u8 n) s=pure (ForInStep.yield (s.push (UInt8.ofNat n.toNat)))):∀{rows:List (List AV)} {l:List UInt8} {vals:List Value} (s:ByteArray),eQ rows=some l→LR w S ρ rows.flatten vals→
 (forIn (m:=Sem) vals s f).run P w=.ok ⟨s.data++l.toArray⟩ w
 | [],l,vals,s,h,hl=>by
   simp[eQ]at h;subst h
   rw[hl.nil_inv];simp
 |row::rows,l,vals,s,h,hl=>by
  unfold eQ at h
  split at h
  ·simp_all
  ·rename_i n l' heq
   simp only[aID.injEq]at heq
   obtain⟨rfl,rfl⟩:=heq
   obtain⟨l2,h2,rfl⟩:=acZ.1 h
   simp only[List.flatten_cons,List.singleton_append]at hl
   obtain⟨c,cs,rfl,h3,h4⟩:=hl.cons_inv
   cases h3
   have ih:=aI7 f hf (s.push (UInt8.ofNat n.toNat)) h2 h4
   simp only[aLD,Sem.run_bind,hf,Sem.run_pure,Result.andThen_ok]
   rw[ih]
   simp[ByteArray.push]
  ·simp at h
theorem aL8(H:HR w S ρ g){s d:TypeId}{x:AV}{cx:Value}{dd:Kx}(h:uS P g s d x=some dd)(hx:VR w S ρ x cx):∃cv,(convert s d cx).run P w=.ok cv w∧VR w S ρ dd.v cv∧dd.es=[]:=by
 unfold uS at h
 split at h
 ·rename_i e hs hd
  split at h
  ·rename_i he
   have main:∀(h:((Hi P g e x).bind fun(_,rows,fs)=>(eQ rows).map fun l=>(⟨.str l,[],fs⟩:Kx))=some dd) (hns:∀q,x≠.str q),∃cv,(convert s d cx).run P w=.ok cv w∧VR w S ρ dd.v cv∧dd.es=[]:=by
    intro h hns
    simp only[acL,acZ]at h
    obtain⟨⟨fl,rows,fs⟩,h1,l,h2,rfl⟩:=h
    have fin:∀(a:Addr) (len cap:Nat) (vals:List Value),cx=.slice (some a) len cap→(loadCells a len).run P w=.ok vals.toArray w→LR w S ρ rows.flatten vals→∃cv,(convert s d cx).run P w=.ok cv w∧VR w S ρ (.str l) cv∧([]:List As)=[]:=by
     intro a len cap vals hc hl hr
     have:(⟨(ByteArray.empty).data++l.toArray⟩:ByteArray).data.toList=l:=by
      have:ByteArray.empty.data=#[]:=rfl
      rw[this];simp
     refine⟨.string ⟨(ByteArray.empty).data++l.toArray⟩,?_,?_,rfl⟩
     ·rw[hc]
      simp only[convert,Sem.run_bind,run_underlying hs,run_underlying hd,Result.andThen_ok,run_underlying he,Conv.bytesToString,hl]
      rw[←aON]
      rw[aI7 (P:=P) (w:=w) _ (fun n s=>rfl) .empty h2 hr]
      rfl
     ·have k:=VR.str (w:=w) (S:=S) (ρ:=ρ) ⟨(ByteArray.empty).data++l.toArray⟩
      rw[this]at k;exact k
    cases hx with
    |nils=>
     simp[Hi]at h1
     obtain⟨rfl,rfl,rfl⟩:=h1
     simp[eQ]at h2;subst h2
     exact⟨.string .empty,by simp[convert,run_underlying hs,run_underlying hd,run_underlying he,Conv.bytesToString],VR.str ⟨#[]⟩,rfl⟩
    |str q=>exact(hns _ rfl).elim
    | @imm _ st fl' rows' a cap f k1 k2 k3 k4 k5 k6 k7=>
      have hx':=VR.imm (ρ:=ρ) f k1 k2 k3 k4 k5 k6 k7
      have hn:mV P e=some st:=by
       simp only[Hi]at h1;split at h1
       ·assumption
       ·simp at h1
      obtain⟨vals,s1,s2,s3,s4,s5,s6⟩:=ah3 (P:=P) H hn h1 hx'
      have e2:rows'=rows:=by simp[Hi,hn]at h1;exact h1.2.1
      subst e2
      by_cases hr0:rows'=[]
      ·subst hr0
       have hv:vals=[]:=s3.nil_inv
       subst hv
       exact fin a _ _ [] rfl (by simp[loadCells,loadCellsFrom]) s3
      ·have h1':st=1:=by
        cases rows' with
        |nil=>exact(hr0 rfl).elim
        |cons r rs=>
         rw[←s4 r (aAP ..)]
         unfold eQ at h2
         split at h2
         ·simp_all
         ·rename_i heq;simp at heq;rw[heq.1];rfl
         ·simp at h2
       subst h1'
       refine fin a _ _ vals rfl ?_ s3
       have:=s2 w rfl
       simpa [Builtin.firstCells]using this
    | @slr _ b r len cb co st sz cap a k1 k2 k3=>
      have hx':=VR.slr (w:=w) (S:=S) (r:=r) k1 k2 k3
      have hn:mV P e=some st:=by
       simp only[Hi,acL]at h1
       obtain⟨⟨st',fl',rows'⟩,q1,q2⟩:=h1
       simp only at q2
       obtain⟨_,_,_,_,_,_,_,_,q3,_⟩:=ab1 H q1 hx'
       split at q2
       ·rename_i q4;rw[q3];exact q4
       ·simp at q2
      obtain⟨vals,s1,s2,s3,s4,s5,s6⟩:=ah3 (P:=P) H hn h1 hx'
      have hlen:rows.length=len:=by
       have q:=s1 w
       simp[Builtin.lenOf]at q
       exact q.symm
      by_cases hr0:rows=[]
      ·subst hr0
       have hv:vals=[]:=s3.nil_inv
       subst hv
       simp at hlen
       exact fin a _ _ [] rfl (by rw[←hlen];simp[loadCells,loadCellsFrom]) s3
      ·have h1':st=1:=by
        cases rows with
        |nil=>exact(hr0 rfl).elim
        |cons r rs=>
         rw[←s4 r (aAP ..)]
         unfold eQ at h2
         split at h2
         ·simp_all
         ·rename_i heq;simp at heq;rw[heq.1];rfl
         ·simp at h2
       subst h1'
       refine fin a _ _ vals rfl ?_ s3
       have:=s2 w rfl
       rw[hlen]at this
       simpa [Builtin.firstCells]using this
    |slrD k1 k2=>simp[Hi,Ju,H.dead _ k1]at h1
    |_=>simp[Hi]at h1
   split at h
   ·simp at h
   ·rename_i hns
    exact main h hns
  ·simp at h
 ·obtain⟨v,hv,rfl⟩:=acZ.1 h
  obtain⟨cv,h1,h2⟩:=aQU (P:=P) hv hx
  exact⟨cv,h1,h2,rfl⟩
end
def Ran(P:Program)(a:Act)(o:Oper)(w:World)(cv:Value)(w':World):Prop:=
 (execOp a.eval o).run P w=.ok (.value cv) w'∨((execOp a.eval o).run P w=.ok .skip w'∧cv=undef)
theorem aGR{P:Program}{w:World}{S:Nat→Prop}{ρ:Bq}{g:HF}(H:HR w S ρ g){base:Nat}(hb:ρ base=.fresh){tmps:List AV}{a:Act}(T:TR w S ρ tmps a.tmps){o:Oper}{d:Kx}
 (h:exec P g base tmps o.op=some d):∃cv w' ρ',Ran P a o w cv w'∧VR w' S ρ' d.v cv∧HR w' S ρ' (Bt g d.es)∧Ix w w' S S ρ ρ'∧jI (Kz d.es) w w' ρ ρ'∧lQ d.es ρ ρ':=by
 obtain⟨dst,op,ty,pos,after,guard⟩:=o
 simp only at h
 have still:∀{v:AV} {cv:Value},(execOp a.eval ⟨dst,op,ty,pos,after,guard⟩).run P w=.ok (.value cv) w→VR w S ρ v cv→d.v=v→d.es=[]→
  ∃cv w' ρ',Ran P a ⟨dst,op,ty,pos,after,guard⟩ w cv w'∧VR w' S ρ' d.v cv∧HR w' S ρ' (Bt g d.es)∧Ix w w' S S ρ ρ'∧jI (Kz d.es) w w' ρ ρ'∧lQ d.es ρ ρ':=fun h1 h2 h3 h4=>
  ⟨_,w,ρ,.inl h1,by rw[h3];exact h2,by rw[h4];exact H,Ix.refl w S ρ,jI.refl,by rw[h4];exact lQ.refl⟩
 have pure':∀{x:Option AV} {d:Kx},Na x=some d→∃v,x=some v∧d=⟨v,[],[]⟩:=fun h=>by
  obtain⟨v,h1,h2⟩:=acZ.1 h;exact⟨v,h1,h2.symm⟩
 cases op with
 |move x=>
  obtain⟨v,h1,rfl⟩:=pure' h
  exact still (by simp[execOp]) (Bl T h1) rfl rfl
 |assign x=>
  obtain⟨v,h1,rfl⟩:=pure' h
  exact still (by simp[execOp]) (Bl T h1) rfl rfl
 |pick oc ox oy=>
  simp only[exec,acL]at h
  obtain⟨c,hc,x,hx,y,hy,h⟩:=h
  have hcv:=Bl T hc
  generalize hce:a.eval oc=cc at hcv
  cases hcv with
  |bool r=>
   simp at h;subst h
   refine still (v:=bif r then x else y) (cv:=bif r then a.eval ox else a.eval oy) (by cases r<;>simp[execOp,asBool,hce]) ?_ rfl rfl
   cases r
   ·exact Bl T hy
   ·exact Bl T hx
  |_=>simp at h
 |alloc t=>
  obtain⟨z,hz,h⟩:=acL.1 h
  obtain⟨i,cz,hi,hiz,hov,hrun⟩:=mR hz
  obtain⟨w',ρ',h1,h2,h3,h4,h5⟩:=aI8 (P:=P) H hb h (Rr hov) t
  exact⟨_,w',ρ',.inl (by simp[execOp,Instr.alloc,hrun,h1]),h2,h3,h4,h5⟩
 |box t x=>
  obtain⟨v,hv,h⟩:=acL.1 h
  obtain⟨w',ρ',h1,h2,h3,h4,h5⟩:=aI8 (P:=P) H hb h (Bl T hv) t
  exact⟨_,w',ρ',.inl (by simp[execOp,Instr.box,h1]),h2,h3,h4,h5⟩
 |build t ps=>
  obtain⟨vs,hvs,h⟩:=acL.1 h
  obtain⟨v,h1,rfl⟩:=pure' h
  obtain⟨hl,hp⟩:=adW T hvs
  obtain⟨cv,h2,h3⟩:=aL1 (P:=P) (cparts:=ps.map fun p=>(p.1,a.eval p.2)) h1 (by simpa using hl) (fun i p q hp1 hq1=>hp i p q hp1 (by simpa using hq1))
  exact still (by simp only[execOp,Sem.run_bind,h2,Result.andThen_ok,Sem.run_pure]) h3 rfl rfl
 |buildSlice t len ps=>
  obtain⟨vs,hvs,h⟩:=acL.1 h
  obtain⟨hl,hp⟩:=adW T hvs
  obtain⟨cv,w',ρ',h2,h3,h4,h5,h6⟩:=aBQ (P:=P) H hb (cparts:=ps.map fun p=>(p.1,a.eval p.2)) h (by simpa using hl) (fun i p q hp1 hq1=>hp i p q hp1 (by simpa using hq1))
  exact⟨cv,w',ρ',.inl (by simp only[execOp,Sem.run_bind,h2,Result.andThen_ok,Sem.run_pure]),h3,h4,h5,h6⟩
 |load t x=>
  obtain⟨p,hp,h⟩:=acL.1 h
  obtain⟨cv,h1,h2,h3⟩:=aGA (P:=P) H h (Bl T hp)
  exact still (by simp[execOp,h1]) h2 rfl h3
 |store t x y=>
  simp only[exec,acL]at h
  obtain⟨p,hp,v,hv,h⟩:=h
  obtain⟨w',h1,h2,h3,h4,h5⟩:=aMO (P:=P) H h (Bl T hp) (Bl T hv)
  exact⟨undef,w',ρ,.inr ⟨by simp[execOp,h1],rfl⟩,by rw[h4];exact iP,h2,h3,h5⟩
 |nilCheck x=>
  obtain⟨v,hv,h⟩:=acL.1 h
  have hcv:=Bl T hv
  generalize hce:a.eval x=cc at hcv
  split at h
  ·simp at h;subst h
   refine still (cv:=cc) ?_ hcv rfl rfl
   cases hcv<;>simp[execOp,hce]
  ·simp at h;subst h
   refine still (cv:=cc) ?_ hcv rfl rfl
   cases hcv;simp[execOp,hce]
  ·simp at h;subst h
   refine still (cv:=cc) ?_ hcv rfl rfl
   cases hcv;simp[execOp,hce]
  ·simp at h
 |binOp op t ox oy ty'=>
  simp only[exec,acL]at h
  obtain⟨x,hx,y,hy,h⟩:=h
  obtain⟨v,h1,rfl⟩:=pure' h
  obtain⟨cv,h2,h3⟩:=aUA (P:=P) (ox:=ox) (oy:=oy) h1 (Bl T hx) (Bl T hy)
  exact still (by simp only[execOp];rw[Sem.run_bind,h2];rfl) h3 rfl rfl
 |unOp op t x=>
  obtain⟨x,hx,h⟩:=acL.1 h
  obtain⟨v,h1,rfl⟩:=pure' h
  obtain⟨cv,h2,h3⟩:=aYT (P:=P) h1 (Bl T hx)
  exact still (by simp[execOp,h2]) h3 rfl rfl
 |convert s t x=>
  obtain⟨x,hx,h⟩:=acL.1 h
  obtain⟨cv,h2,h3,h4⟩:=aL8 (P:=P) H h (Bl T hx)
  exact still (by simp[execOp,h2]) h3 rfl h4
 |range t x=>
  obtain⟨x,hx,h⟩:=acL.1 h
  obtain⟨cv,w',ρ',h1,h2,h3,h4,h5,h6⟩:=aMB (P:=P) H hb h (Bl T hx)
  exact⟨cv,w',ρ',.inl (by simp[execOp,h1]),h2,h3,h4,h5,h6⟩
 |next x is=>
  cases is with
  |false=>simp[exec]at h
  |true=>
   obtain⟨x,hx,h⟩:=acL.1 h
   obtain⟨cv,w',h1,h2,h3,h4,h5,h6⟩:=aQX (P:=P) H h (Bl T hx) ty
   exact⟨cv,w',ρ,.inl (by simp[execOp,h1]),h2,h3,h4,h5,h6⟩
 |makeMap t r=>
  cases r with
  |some r=>simp[exec]at h
  |none=>
   simp[exec]at h;subst h
   obtain⟨cv,w',ρ',h1,h2,h3,h4,h5,h6⟩:=aHH (P:=P) H hb t
   exact⟨cv,w',ρ',.inl (by simp[execOp,h1]),h2,h3,h4,h5,h6⟩
 |lookup t x y ok=>
  simp only[exec,acL]at h
  obtain⟨x,hx,y,hy,h⟩:=h
  obtain⟨cv,h2,h3,h4⟩:=aKA (P:=P) H h (Bl T hx) (Bl T hy)
  exact still (by simp[execOp,h2]) h3 rfl h4
 |mapUpdate t x y z=>
  simp only[exec,acL]at h
  obtain⟨x,hx,y,hy,z,hz,h⟩:=h
  obtain⟨w',h1,h2,h3,h4,h5,h6⟩:=aqR (P:=P) H h (Bl T hx) (Bl T hy) (Bl T hz)
  exact⟨undef,w',ρ,.inr ⟨by simp[execOp,h1],rfl⟩,by rw[h4];exact iP,h2,h3,h5,h6⟩
 |insert t x y z=>
  simp only[exec,acL]at h
  obtain⟨x,hx,y,hy,z,hz,h⟩:=h
  obtain⟨w',h1,h2,h3,h4,h5,h6⟩:=aqR (P:=P) H h (Bl T hx) (Bl T hy) (Bl T hz)
  exact⟨undef,w',ρ,.inr ⟨by simp[execOp,h1],rfl⟩,by rw[h4];exact iP,h2,h3,h5,h6⟩
 |makeInterface t x=>
  obtain⟨x',hx,h⟩:=acL.1 h
  split at h
  ·simp at h
  ·rename_i u hni hu
   simp at h;subst h
   refine still (cv:=.iface t (a.eval x)) ?_ (.iface (Bl T hx)) rfl rfl
   cases u<;>first
    |exact(hni _ rfl).elim
    |simp[execOp,Instr.makeInterface,run_underlying hu]
  ·simp at h
 |makeFunc fn xs ys=>
  cases fn with
  |func f=>
   simp only[exec,acL]at h
   obtain⟨xs',hxs,ys',hys,h⟩:=h
   simp at h;subst h
   have h1:=Vs T hxs
   have h2:=Vs T hys
   exact still (cv:=.func (.func f) (xs.map a.eval) (ys.map a.eval)) (by simp[execOp,Instr.makeFunc]) (.func (by simpa using h1.1) (by simpa using h2.1) (fun i x v hx hv=>h1.2 i x v hx (by rw[←aPA]at hv;simpa using hv)) (fun i x v hx hv=>h2.2 i x v hx (by rw[←aPA]at hv;simpa using hv))) rfl rfl
  |_=>simp[exec]at h
 |makeSlice t x y=>
  simp only[exec,acL]at h
  obtain⟨x,hx,y,hy,h⟩:=h
  obtain⟨cv,w',ρ',h2,h3,h4,h5,h6⟩:=aDU (P:=P) H hb h (Bl T hx) (Bl T hy)
  exact⟨cv,w',ρ',.inl (by simp[execOp,h2]),h3,h4,h5,h6⟩
 |slice t x lo hi mx=>
  cases mx with
  |some m=>simp[exec]at h
  |none=>
   simp only[exec,acL]at h
   obtain⟨x',hx,l',hl,h',hh,h⟩:=h
   obtain⟨v,h1,rfl⟩:=pure' h
   have opt:∀{o:Option Operand} {r:Option AV},aCA tmps o=some r→OR w S ρ r (o.map a.eval):=fun {o r} ho=>by
    cases o with
    |none=>simp[aCA]at ho;subst ho;exact trivial
    |some x=>obtain⟨v,hv,rfl⟩:=acZ.1 ho;exact Bl T hv
   obtain⟨cv,h2,h3⟩:=aN9 (P:=P) h1 (Bl T hx) (opt hl) (opt hh)
   exact still (by simp[execOp,h2]) h3 rfl rfl
 |fieldAddr t x f=>
  obtain⟨x,hx,h⟩:=acL.1 h
  obtain⟨v,h1,rfl⟩:=pure' h
  obtain⟨cv,h2,h3⟩:=aDZ (P:=P) h1 (Bl T hx)
  exact still (by simp[execOp,h2]) h3 rfl rfl
 |field t x f=>
  obtain⟨x,hx,h⟩:=acL.1 h
  obtain⟨v,h1,rfl⟩:=pure' h
  obtain⟨cv,h2,h3⟩:=aL3 (P:=P) h1 (Bl T hx)
  exact still (by simp[execOp,h2]) h3 rfl rfl
 |indexAddr t x y=>
  simp only[exec,acL]at h
  obtain⟨x,hx,y,hy,h⟩:=h
  obtain⟨v,h1,rfl⟩:=pure' h
  obtain⟨cv,h2,h3⟩:=aDW (P:=P) h1 (Bl T hx) (Bl T hy)
  exact still (by simp[execOp,h2]) h3 rfl rfl
 |index t x y=>
  simp only[exec,acL]at h
  obtain⟨x,hx,y,hy,h⟩:=h
  obtain⟨v,h1,rfl⟩:=pure' h
  obtain⟨cv,h2,h3⟩:=aOK (P:=P) h1 (Bl T hx) (Bl T hy)
  exact still (by simp[execOp,h2]) h3 rfl rfl
 |extract x i=>
  obtain⟨x',hx,h⟩:=acL.1 h
  have hcv:=Bl T hx
  generalize hce:a.eval x=cc at hcv
  cases hcv with
  | @tup _ vs cvs hl hc=>
    obtain⟨v,h1,rfl⟩:=pure' h
    have hi:i<cvs.size:=by have:=(aAM.1 h1).1;omega
    exact still (cv:=cvs[i]) (by simp[execOp,Instr.extract,hce,hi]) (hc _ v _ h1 (by simp[hi])) rfl rfl
  |_=>simp at h
 |call c=>
  obtain⟨cal,args,ts⟩:=c
  cases cal with
  |builtin b=>
   obtain⟨vs,hvs,h⟩:=acL.1 h
   have hlr:=Vs T hvs
   have hargs:args.map a.eval=(args.toList.map a.eval).toArray:=by apply Array.ext';simp
   generalize hcs:args.toList.map a.eval=cs at hlr hargs
   split at h
   ·obtain⟨t,ht,h⟩:=acL.1 h
    obtain⟨v,h1,rfl⟩:=pure' h
    obtain⟨c1,cs',rfl,k1,k2⟩:=hlr.cons_inv
    obtain rfl:=k2.nil_inv
    obtain⟨cv,h2,h3⟩:=aTU (P:=P) (ty:=ty) ht h1 k1
    exact still (by simp[execOp,resolve,hargs,invoke,builtin,h2]) h3 rfl rfl
   ·rename_i s x _
    simp only[acL]at h
    obtain⟨t,ht,t1,ht1,h⟩:=h
    obtain⟨c1,cs',rfl,k1,k2⟩:=hlr.cons_inv
    obtain⟨c2,cs'',rfl,k3,k4⟩:=k2.cons_inv
    obtain rfl:=k4.nil_inv
    have hsrc:a4H P t1∧Oc P g base t s x=some d:=by
     split at h
     ·rename_i h5;exact⟨.inl ⟨_,h5⟩,h⟩
     ·rename_i h5;exact⟨.inr h5,h⟩
     ·simp at h
    obtain⟨cv,w',ρ',h2,h3,h4,h5,h6⟩:=aJ9 (P:=P) (ty:=ty) H hb ht ht1 hsrc.1 hsrc.2 k1 k3
    exact⟨cv,w',ρ',.inl (by simp[execOp,resolve,hargs,invoke,builtin,h2]),h3,h4,h5,h6⟩
   ·obtain⟨v,h1,rfl⟩:=pure' h
    obtain⟨c1,cs',rfl,k1,k2⟩:=hlr.cons_inv
    obtain⟨c2,cs'',rfl,k3,k4⟩:=k2.cons_inv
    obtain rfl:=k4.nil_inv
    obtain⟨cv,h2,h3⟩:=an5 (P:=P) h1 k1 k3
    exact still (by simp[execOp,resolve,hargs,invoke,builtin,Builtin.min_,h2]) h3 rfl rfl
   ·obtain⟨v,h1,rfl⟩:=pure' h
    obtain⟨c1,cs',rfl,k1,k2⟩:=hlr.cons_inv
    obtain⟨c2,cs'',rfl,k3,k4⟩:=k2.cons_inv
    obtain⟨c3,cs3,rfl,k5,k6⟩:=k4.cons_inv
    obtain rfl:=k6.nil_inv
    obtain⟨q,h1,h6⟩:=acL.1 h1
    obtain⟨cv,h2,h3⟩:=an5 (P:=P) h1 k1 k3
    obtain⟨cv',h4,h5⟩:=an5 (P:=P) h6 h3 k5
    exact still (by simp[execOp,resolve,hargs,invoke,builtin,Builtin.min_,h2,h4]) h5 rfl rfl
   ·obtain⟨v,h1,rfl⟩:=pure' h
    obtain⟨c1,cs',rfl,k1,k2⟩:=hlr.cons_inv
    obtain⟨c2,cs'',rfl,k3,k4⟩:=k2.cons_inv
    obtain rfl:=k4.nil_inv
    obtain⟨cv,h2,h3⟩:=ao9 (P:=P) h1 k1 k3
    exact still (by simp[execOp,resolve,hargs,invoke,builtin,Builtin.max_,h2]) h3 rfl rfl
   ·obtain⟨v,h1,rfl⟩:=pure' h
    obtain⟨c1,cs',rfl,k1,k2⟩:=hlr.cons_inv
    obtain⟨c2,cs'',rfl,k3,k4⟩:=k2.cons_inv
    obtain⟨c3,cs3,rfl,k5,k6⟩:=k4.cons_inv
    obtain rfl:=k6.nil_inv
    obtain⟨q,h1,h6⟩:=acL.1 h1
    obtain⟨cv,h2,h3⟩:=ao9 (P:=P) h1 k1 k3
    obtain⟨cv',h4,h5⟩:=ao9 (P:=P) h6 h3 k5
    exact still (by simp[execOp,resolve,hargs,invoke,builtin,Builtin.max_,h2,h4]) h5 rfl rfl
   ·simp at h
  |_=>simp[exec]at h
 |_=>simp[exec]at h
section
variable {P:Program} {w:World} {S Sc:Nat→Prop} {ρ:Bq} {g:HF}
theorem VR.monoS(hS:∀b,S b→Sc b){x:AV}{v:Value}(h:VR w S ρ x v):VR w Sc ρ x v:=h.mono (fun _ _=>rfl) hS ρ.le_refl
theorem aL6:∀{d:Nat} {x x':AV},Je d g x=some x'→x.isCell=true→x'.isCell=true
 |0,_,_,h,_=>by simp[Je]at h
 |d+1,x,x',h,hc=>by
  cases x with
  |slr st0 b r len=>
   simp only[Je,acL]at h
   obtain⟨⟨st,fl,rows⟩,h1,h2⟩:=h
   simp only at h2
   split at h2
   ·simp at h2;subst h2;rfl
   ·obtain⟨r,_,rfl⟩:=acZ.1 h2;rfl
  |agg cs=>simp[AV.isCell]at hc
  |tup cs=>simp[AV.isCell]at hc
  |iface t y=>obtain⟨y,_,rfl⟩:=acZ.1 h;rfl
  |ptr b r o=>simp[Je]at h
  |func fn a b=>
   cases a<;>cases b<;>simp[Je]at h
   subst h;rfl
  |yl a=>simp[Je]at h
  |mapr a=>simp[Je]at h
  |itr a=>simp[Je]at h
  |_=>simp[Je]at h;subst h;rfl
theorem aRU(H:HR w S ρ g){st0 b r len:Nat}{v:Value}(hx:VR w S ρ (.slr st0 b r len) v){st:Nat}{fl:Bool}{rows:List (List AV)}(hr:Ju g b r len=some (st,fl,rows))
 (hL:∀cb co st sz,ρ b=.pl cb co st sz→Sc cb) {rows':List (List AV)} {fl':Bool} (hlen:rows.length=rows'.length)
 (hrow:∀(i:Nat) (r r':List AV),rows[i]?=some r→rows'[i]?=some r'→r.length=r'.length∧∀(j:Nat) (x x':AV) (v:Value),r[j]?=some x→r'[j]?=some x'→VR w S ρ x v→∀ρ',VR w Sc ρ' x' v)
 (hfl:fl'=true→∀r∈rows',∀x∈r,x.flat=true) (hcl:∀r∈rows',∀x∈r,x.isCell=true) (ρ':Bq):VR w Sc ρ' (.imm st fl' rows') v:=by
 cases hx with
 |slrD hρ _=>simp[Ju,H.dead b hρ]at hr
 | @slr _ _ _ _ cb co _ sz cap a hρ hle ha=>
   obtain⟨c,e,fz,fl0,rows0,h1,h2,h3,h4⟩:=H.at_ b cb co st0 sz hρ
   have hg:r+len≤rows0.length∧st0=st∧fl0=fl∧(rows0.drop r).take len=rows:=by
    rcases h4 with⟨⟨wr,h4⟩,_⟩|⟨h4,_⟩<;>simpa [Ju,h4]using hr
   obtain⟨hrl,rfl,rfl,rfl⟩:=hg
   have hl:((rows0.drop r).take len).length=len:=by simp;omega
   have hsub:∀(i:Nat) row,((rows0.drop r).take len)[i]?=some row→rows0[r+i]?=some row:=fun i row hr=>by
    rw[aPH]at hr
    split at hr
    ·rwa[aQ7]at hr
    ·simp at hr
   have getr:∀(i:Nat) (r':List AV),rows'[i]?=some r'→∃row,((rows0.drop r).take len)[i]?=some row:=fun i r' hr'=>by
    have:i<rows'.length:=(aAM.1 hr').1
    exact⟨_,acR (by omega)⟩
   have hlr:rows'.length=len:=by omega
   have hwid:∀r'∈rows',r'.length=st0:=fun r' hr'=>by
    obtain⟨i,hi,rfl⟩:=aAN.1 hr'
    obtain⟨row,hrow'⟩:=getr i _ (acR hi)
    rw[←(hrow i row _ hrow' (acR hi)).1]
    exact h3.wide row (aqD (hsub i row hrow'))
   suffices hh:VR w Sc ρ' (.imm st0 fl' rows') (.slice (some a) rows'.length cap) by rw[hlr]at hh;exact hh
   rcases ha with ha|⟨rfl,ha⟩
   ·have:rows'=[]:=List.eq_nil_of_length_eq_zero (by omega)
    subst this
    exact .imm (fun _ _=>.nilFunc) (.inl rfl) (by simp) (by simp) (by simp) (by simp) (by simp) (by simp)
   ·refine VR.imm (fun i j=>(c[co+(r+i)*st0+j]?).getD undef) (.inr ⟨hL _ _ _ _ hρ,rfl⟩) (by omega) hwid hfl hcl (fun i r' j x' hr' hx'=>?_) (fun ρ'' i r' j x' hr' hx'=>?_)
    all_goals
     obtain⟨row,hrow'⟩:=getr i _ hr'
     obtain⟨e1,e2⟩:=hrow i row r' hrow' hr'
     have hj:j<row.length:=by rw[e1];exact(aAM.1 hx').1
     obtain⟨cv,h5,h6⟩:=h3.cell (r+i) row j _ (hsub i row hrow') (acR hj)
    ·rw[azG h1,show co+r*st0+i*st0+j=co+(r+i)*st0+j by rw[Nat.add_mul];omega,h5];rfl
    ·rw[h5];exact e2 j _ x' cv (acR hj) hx' h6 ρ''
theorem acE(H:HR w S ρ g)(hS:∀b,S b→Sc b):∀{d:Nat} {x x':AV} {v:Value},Je d g x=some x'→VR w S ρ x v→(∀b∈Dk d g x,∀cb co st sz,ρ b=.pl cb co st sz→Sc cb)→
 ∀ρ':Bq,VR w Sc ρ' x' v
 |0,_,_,_,h,_,_=>by simp[Je]at h
 |d+1,x,x',v,h,hx,hL=>by
  intro ρ'
  cases x with
  |slr st0 b r len=>
   simp only[Je,acL]at h
   obtain⟨⟨st,fl,rows⟩,hr,h⟩:=h
   simp only at h
   have hLb:∀cb co st sz,ρ b=.pl cb co st sz→Sc cb:=fun cb co st sz hb=>hL b (by simp[Dk]) cb co st sz hb
   obtain⟨cb,co,sz,cap,a,vals,q1,q2,q3,q4,q5,q6,q7,q8,q9,q10,q11⟩:=ab1 H hr hx
   split at h
   ·rename_i hfl
    simp at h;subst h
    refine aRU H hx hr hLb rfl (fun i r1 r2 h1 h2=>?_) (fun _=>q10 hfl) q11 ρ'
    rw[h1]at h2;cases h2
    exact⟨rfl,fun j y y' u hy hy' hu ρ''=>by rw[hy]at hy';cases hy';exact hu.flat (q10 hfl r1 (aqD h1) y (aqD hy))⟩
   ·rename_i hfl
    obtain⟨rows',ho,rfl⟩:=acZ.1 h
    obtain⟨o1,o2⟩:=Ht ho
    have hin:∀row∈rows,∀y∈row,∀b∈Dk d g y,∀cb co st sz,ρ b=.pl cb co st sz→Sc cb:=fun row hrow y hy b' hb'=>hL b' (by
     simp only[Dk,hr,hfl]
     exact aAO _ (aLF.2 ⟨row,hrow,aLF.2 ⟨y,hy,hb'⟩⟩))
    refine aRU H hx hr hLb o1 (fun i r1 r2 h1 h2=>?_) (by simp) (fun r' hr' y' hy'=>?_) ρ'
    ·obtain⟨r1',h1',h3⟩:=o2 i r2 h2
     rw[h1]at h1';cases h1'
     obtain⟨p1,p2⟩:=Ht h3
     refine⟨p1,fun j y y' u hy hy' hu=>?_⟩
     obtain⟨y0,hy0,hy1⟩:=p2 j y' hy'
     rw[hy]at hy0;cases hy0
     exact acE H hS hy1 hu (hin r1 (aqD h1) y (aqD hy))
    ·obtain⟨i,hi,rfl⟩:=aAN.1 hr'
     obtain⟨r1,h1,h3⟩:=o2 i _ (acR hi)
     obtain⟨p1,p2⟩:=Ht h3
     obtain⟨j,hj,rfl⟩:=aAN.1 hy'
     obtain⟨y0,hy0,hy1⟩:=p2 j _ (acR hj)
     exact aL6 hy1 (q11 r1 (aqD h1) y0 (aqD hy0))
  |agg cs=>
   obtain⟨cs',ho,rfl⟩:=acZ.1 h
   cases hx with
   | @agg _ _ vs hl hc=>
     obtain⟨o1,o2⟩:=Ht ho
     refine .agg (by rw[←o1];exact hl) (fun i y u hy hu=>?_)
     obtain⟨y0,hy0,hy1⟩:=o2 i y hy
     exact acE H hS hy1 (hc i y0 u hy0 hu) (fun b hb=>hL b (by
      simp only[Dk];exact aLF.2 ⟨y0,aqD hy0,hb⟩)) ρ'
  |tup cs=>simp[Je]at h
  |iface t y=>
   obtain⟨y',ho,rfl⟩:=acZ.1 h
   cases hx with
   |iface hy=>exact .iface (acE H hS ho hy (fun b hb=>hL b (by simpa [Dk]using hb)) ρ')
  |ptr b r o=>simp[Je]at h
  |func fn a b=>
   cases a<;>cases b<;>simp[Je]at h
   subst h
   cases hx with
   |func h1 h2 h3 h4=>exact .func h1 h2 (fun i x v hx=>by simp at hx) (fun i x v hx=>by simp at hx)
  |yl a=>simp[Je]at h
  |mapr a=>simp[Je]at h
  |itr a=>simp[Je]at h
  |bool b=>simp[Je]at h;subst h;cases hx;exact .bool _
  |int k n=>simp[Je]at h;subst h;cases hx;exact .int _ _
  |str s=>simp[Je]at h;subst h;cases hx;exact .str _
  |nilp=>simp[Je]at h;subst h;cases hx;exact .nilp
  |iptr cs=>simp[Je]at h;subst h;have hm:=hx.monoS hS;cases hm with|iptr f a b c=>exact .iptr f a b c
  |nils=>simp[Je]at h;subst h;cases hx;exact .nils
  |imm a b c=>simp[Je]at h;subst h;have hm:=hx.monoS hS;cases hm with|imm f a b c d e g k=>exact .imm f a b c d e g k
  |nilm=>simp[Je]at h;subst h;cases hx;exact .nilm
  |nilf=>simp[Je]at h;subst h;cases hx;exact .nilf
  |nili=>simp[Je]at h;subst h;cases hx;exact .nili
theorem ap9(H:HR w S ρ g)(hS:∀b,S b→Sc b):∀{d:Nat} {x x':AV} {v:Value},Of d g x=some x'→VR w S ρ x v→(∀b∈Dk d g x,∀cb co st sz,ρ b=.pl cb co st sz→Sc cb)→VR w Sc ρ x' v
 |0,_,_,_,h,_,_=>by simp[Of]at h
 |d+1,x,x',v,h,hx,hL=>by
  cases x with
  |slr st0 b r len=>exact acE H hS (d:=d+1) (by simpa [Of]using h) hx hL ρ
  |agg cs=>
   obtain⟨cs',ho,rfl⟩:=acZ.1 h
   cases hx with
   | @agg _ _ vs hl hc=>
     obtain⟨o1,o2⟩:=Ht ho
     refine .agg (by rw[←o1];exact hl) (fun i y u hy hu=>?_)
     obtain⟨y0,hy0,hy1⟩:=o2 i y hy
     exact ap9 H hS hy1 (hc i y0 u hy0 hu) (fun b hb=>hL b (by
      simp only[Dk];exact aLF.2 ⟨y0,aqD hy0,hb⟩))
  |iface t y=>
   obtain⟨y',ho,rfl⟩:=acZ.1 h
   cases hx with
   |iface hy=>exact .iface (ap9 H hS ho hy (fun b hb=>hL b (by simpa [Dk]using hb)))
  |_=>simp[Of]at h;subst h;exact hx.monoS hS
theorem VR.ren{f:Nat→Nat}{ρ':Bq}(hf:∀b,ρ b≠.fresh→ρ' (f b)=ρ b):∀{d:Nat} {x x':AV} {v:Value},Ft d f x=some x'→VR w S ρ x v→VR w S ρ' x' v
 |0,_,_,_,h,_=>by simp[Ft]at h
 |d+1,x,x',v,h,hx=>by
  cases hx with
  |bool b=>simp[Ft]at h;subst h;exact .bool _
  |int k n=>simp[Ft]at h;subst h;exact .int _ _
  |str s=>simp[Ft]at h;subst h;exact .str _
  |nilp=>simp[Ft]at h;subst h;exact .nilp
  |ptr h1=>simp[Ft]at h;subst h;exact .ptr (by rw[hf _ (by rw[h1];simp),h1])
  |ptrD h1=>simp[Ft]at h;subst h;exact .ptrD (by rw[hf _ (by rw[h1];simp),h1])
  |iptr f' a b c=>simp[Ft]at h;subst h;exact .iptr f' a b c
  |nils=>simp[Ft]at h;subst h;exact .nils
  |imm f' a b c d e g k=>simp[Ft]at h;subst h;exact .imm f' a b c d e g k
  |slr h1 h2 h3=>simp[Ft]at h;subst h;exact .slr (by rw[hf _ (by rw[h1];simp),h1]) h2 h3
  |slrD h1 h2=>simp[Ft]at h;subst h;exact .slrD (by rw[hf _ (by rw[h1];simp),h1]) h2
  | @func _ fn a c va vc h1 h2 h3 h4=>
    simp only[Ft,acL,acZ]at h
    obtain⟨a',ha,c',hc,rfl⟩:=h
    obtain⟨o1,o2⟩:=Ht ha
    obtain⟨p1,p2⟩:=Ht hc
    refine .func (by rw[←o1];exact h1) (by rw[←p1];exact h2) (fun i y u hy hu=>?_) (fun i y u hy hu=>?_)
    ·obtain⟨y0,hy0,hy1⟩:=o2 i y hy;exact VR.ren hf hy1 (h3 i y0 u hy0 hu)
    ·obtain⟨y0,hy0,hy1⟩:=p2 i y hy;exact VR.ren hf hy1 (h4 i y0 u hy0 hu)
  |yl h1=>simp[Ft]at h;subst h;exact .yl (by rw[hf _ (by rw[h1];simp),h1])
  |ylD h1=>simp[Ft]at h;subst h;exact .ylD (by rw[hf _ (by rw[h1];simp),h1])
  |mapr h1=>simp[Ft]at h;subst h;exact .mapr (by rw[hf _ (by rw[h1];simp),h1])
  |maprD h1=>simp[Ft]at h;subst h;exact .maprD (by rw[hf _ (by rw[h1];simp),h1])
  |itr h1=>simp[Ft]at h;subst h;exact .itr (by rw[hf _ (by rw[h1];simp),h1])
  |itrD h1=>simp[Ft]at h;subst h;exact .itrD (by rw[hf _ (by rw[h1];simp),h1])
  |nilm=>simp[Ft]at h;subst h;exact .nilm
  |nilf=>simp[Ft]at h;subst h;exact .nilf
  |iface h1=>
   obtain⟨y',ho,rfl⟩:=acZ.1 h
   exact .iface (VR.ren hf ho h1)
  |nili=>simp[Ft]at h;subst h;exact .nili
  |agg h1 h2=>
   obtain⟨a',ha,rfl⟩:=acZ.1 h
   obtain⟨o1,o2⟩:=Ht ha
   refine .agg (by rw[←o1];exact h1) (fun i y u hy hu=>?_)
   obtain⟨y0,hy0,hy1⟩:=o2 i y hy;exact VR.ren hf hy1 (h2 i y0 u hy0 hu)
  |tup h1 h2=>
   obtain⟨a',ha,rfl⟩:=acZ.1 h
   obtain⟨o1,o2⟩:=Ht ha
   refine .tup (by rw[←o1];exact h1) (fun i y u hy hu=>?_)
   obtain⟨y0,hy0,hy1⟩:=o2 i y hy;exact VR.ren hf hy1 (h2 i y0 u hy0 hu)
theorem aLK{f:Nat→Nat}{d:Nat}{x x':AV}(h:Ft d f x=some x')(hc:x.isCell=true):x'.isCell=true:=by
 cases d with
 |zero=>simp[Ft]at h
 |succ d=>
  cases x with
  |func fn a b=>
   simp only[Ft,acL,acZ]at h
   obtain⟨_,_,_,_,rfl⟩:=h;rfl
  |agg cs=>simp[AV.isCell]at hc
  |tup cs=>simp[AV.isCell]at hc
  |iface t y=>obtain⟨_,_,rfl⟩:=acZ.1 h;rfl
  |_=>simp[Ft]at h;subst h;rfl
theorem VR.noImm{S':Nat→Prop}:∀{d:Nat} {x:AV} {v:Value},hasImm d x=false→VR w S ρ x v→VR w S' ρ x v
 |0,_,_,h,_=>by simp[hasImm]at h
 |d+1,x,v,h,hx=>by
  cases hx with
  |bool b=>exact .bool _
  |int k n=>exact .int _ _
  |str s=>exact .str _
  |nilp=>exact .nilp
  |ptr h1=>exact .ptr h1
  |ptrD h1=>exact .ptrD h1
  |iptr f' a b c=>simp[hasImm]at h
  |nils=>exact .nils
  | @imm _ st fl rows a cap f' s1 b c d e g k=>
    cases rows with
    |nil=>exact .imm f' (.inl rfl) b c d e g (fun ρ' i r j x hr=>by simp at hr)
    |cons r rs=>simp[hasImm]at h
  |slr h1 h2 h3=>exact .slr h1 h2 h3
  |slrD h1 h2=>exact .slrD h1 h2
  |func h1 h2 h3 h4=>
   simp only[hasImm,aRF,aG6]at h
   exact .func h1 h2 (fun i y u hy hu=>VR.noImm (d:=d) (by simpa using h.1 y (aqD hy)) (h3 i y u hy hu)) (fun i y u hy hu=>VR.noImm (d:=d) (by simpa using h.2 y (aqD hy)) (h4 i y u hy hu))
  |yl h1=>exact .yl h1
  |ylD h1=>exact .ylD h1
  |mapr h1=>exact .mapr h1
  |maprD h1=>exact .maprD h1
  |itr h1=>exact .itr h1
  |itrD h1=>exact .itrD h1
  |nilm=>exact .nilm
  |nilf=>exact .nilf
  |iface h1=>exact .iface (VR.noImm (d:=d) (by simpa [hasImm]using h) h1)
  |nili=>exact .nili
  |agg h1 h2=>
   simp only[hasImm,aG6]at h
   exact .agg h1 (fun i y u hy hu=>VR.noImm (d:=d) (by simpa using h y (aqD hy)) (h2 i y u hy hu))
  |tup h1 h2=>
   simp only[hasImm,aG6]at h
   exact .tup h1 (fun i y u hy hu=>VR.noImm (d:=d) (by simpa using h y (aqD hy)) (h2 i y u hy hu))
end
section
variable {P:Program} {w:World} {S Sc:Nat→Prop} {ρ:Bq} {g:HF}
theorem Vr(m:List Nat)(b:Nat):(Om m b).2[(Om m b).1]?=some b∧m <+:(Om m b).2∧(m.Nodup→(Om m b).2.Nodup):=by
 unfold Om
 split
 ·rename_i i h
  obtain⟨h1,h2,_⟩:=aRG.1 h
  exact⟨by rw[acR h1,h2],aER _,id⟩
 ·rename_i h
  have hn:b∉m:=aLG.1 h
  refine⟨by simp,List.prefix_append _ _,fun hd=>?_⟩
  rw[List.nodup_append]
  exact⟨hd,by simp,fun a ha c hc=>by simp at hc;subst hc;exact fun e=>hn (e▸ha)⟩
theorem dD{m m':List Nat}(h:m <+:m'){i b:Nat}(hi:m[i]?=some b):m'[i]?=some b:=by
 obtain⟨t,rfl⟩:=h
 rw[List.getElem?_append_left (aAM.1 hi).1];exact hi
theorem aN7{m m':List Nat}(h:m <+:m'){i b base:Nat}(hi:m[i]?=some b):m'.getD i base=b:=by
 rw[aKM,dD h hi];rfl
def Bq.via(ρ:Bq)(m:List Nat)(base:Nat):Bq:=fun i=>ρ (m.getD i base)
theorem Bq.via_at{m m':List Nat}{i b base:Nat}(h:m <+:m')(hi:m[i]?=some b):ρ.via m' base i=ρ b:=by
 unfold Bq.via;rw[aN7 h hi]
structure aDA(m m':List Nat)(x x':AV):Prop where
 pre:m <+:m'
 nodup:m.Nodup→m'.Nodup
 cell:x.isCell=true→x'.isCell=true
 flat:x.flat=true→x'=x
 vr:∀{w:World} {S:Nat→Prop} {ρ:Bq} {v:Value} {m'':List Nat} (base:Nat),m' <+:m''→VR w S ρ x v→VR w S (ρ.via m'' base) x' v
theorem qR{f:List Nat→AV→Option (AV × List Nat)}(hf:∀m x x' m',f m x=some (x',m')→aDA m m' x x'):∀{xs xs':List AV} {m m':List Nat},Fv.refL f m xs=some (xs',m')→
 m <+:m'∧(m.Nodup→m'.Nodup)∧xs.length=xs'.length∧∀(i:Nat) x x',xs[i]?=some x→xs'[i]?=some x'→∃m1 m2,aDA m1 m2 x x'∧m2 <+:m'
 | [],xs',m,m',h=>by
   simp[Fv.refL]at h;obtain⟨rfl,rfl⟩:=h
   exact⟨aER _,id,rfl,fun i x x' hx=>by simp at hx⟩
 |x::xs,xs',m,m',h=>by
  simp only[Fv.refL,acL,acZ]at h
  obtain⟨⟨y,m1⟩,hy,⟨ys,m2⟩,hys,heq⟩:=h
  simp only[Prod.mk.injEq]at heq
  obtain⟨rfl,rfl⟩:=heq
  have h1:=hf _ _ _ _ hy
  obtain⟨p1,p2,p3,p4⟩:=qR hf hys
  refine⟨h1.pre.trans p1,fun hd=>p2 (h1.nodup hd),by simp[p3],fun i x0 x0' hx hx'=>?_⟩
  cases i with
  |zero=>simp at hx hx';subst hx hx';exact⟨_,_,h1,p1⟩
  |succ i=>simp at hx hx';exact p4 i _ _ hx hx'
theorem ayE:∀{d:Nat} {m m':List Nat} {x x':AV},Fv d m x=some (x',m')→aDA m m' x x'
 |0,_,_,_,_,h=>by simp[Fv]at h
 |d+1,m,m',x,x',h=>by
  have IH:∀m x x' m',Fv d m x=some (x',m')→aDA m m' x x':=fun m x x' m' h=>ayE h
  have same:∀{y:AV},(some (y,m):Option (AV × List Nat))=some (x',m')→(∀{w:World} {S:Nat→Prop} {ρ ρ':Bq} {v:Value},VR w S ρ y v→VR w S ρ' y v)→aDA m m' y x':=fun {y} h hv=>by
   simp at h;obtain⟨rfl,rfl⟩:=h
   exact⟨aER _,id,id,fun _=>rfl,fun base _ hx=>hv hx⟩
  cases x with
  |ptr b r o=>
   simp[Fv]at h;obtain⟨rfl,rfl⟩:=h
   obtain⟨p1,p2,p3⟩:=Vr m b
   refine⟨p2,p3,fun _=>rfl,fun h=>by simp[AV.flat]at h,fun base hp hx=>?_⟩
   cases hx with
   |ptr hb=>exact .ptr (by rw[Bq.via_at hp p1];exact hb)
   |ptrD hb=>exact .ptrD (by rw[Bq.via_at hp p1];exact hb)
  |slr st b r len=>
   simp[Fv]at h;obtain⟨rfl,rfl⟩:=h
   obtain⟨p1,p2,p3⟩:=Vr m b
   refine⟨p2,p3,fun _=>rfl,fun h=>by simp[AV.flat]at h,fun base hp hx=>?_⟩
   cases hx with
   |slr hb h2 h3=>exact .slr (by rw[Bq.via_at hp p1];exact hb) h2 h3
   |slrD hb h2=>exact .slrD (by rw[Bq.via_at hp p1];exact hb) h2
  |agg cs=>
   simp only[Fv,acZ]at h
   obtain⟨⟨cs',m1⟩,h1,heq⟩:=h
   simp only[Prod.mk.injEq]at heq;obtain⟨rfl,rfl⟩:=heq
   obtain⟨p1,p2,p3,p4⟩:=qR IH h1
   refine⟨p1,p2,fun h=>by simp[AV.isCell]at h,fun h=>by simp[AV.flat]at h,fun base hp hx=>?_⟩
   cases hx with
   |agg hl hc=>
    refine .agg (by rw[←p3];exact hl) (fun i y u hy hu=>?_)
    have hi:i<cs.length:=by rw[p3];exact(aAM.1 hy).1
    obtain⟨m2,m3,q1,q2⟩:=p4 i _ y (acR hi) hy
    exact q1.vr base (q2.trans hp) (hc i _ u (acR hi) hu)
  |tup cs=>
   simp only[Fv,acZ]at h
   obtain⟨⟨cs',m1⟩,h1,heq⟩:=h
   simp only[Prod.mk.injEq]at heq;obtain⟨rfl,rfl⟩:=heq
   obtain⟨p1,p2,p3,p4⟩:=qR IH h1
   refine⟨p1,p2,fun h=>by simp[AV.isCell]at h,fun h=>by simp[AV.flat]at h,fun base hp hx=>?_⟩
   cases hx with
   |tup hl hc=>
    refine .tup (by rw[←p3];exact hl) (fun i y u hy hu=>?_)
    have hi:i<cs.length:=by rw[p3];exact(aAM.1 hy).1
    obtain⟨m2,m3,q1,q2⟩:=p4 i _ y (acR hi) hy
    exact q1.vr base (q2.trans hp) (hc i _ u (acR hi) hu)
  |iface t y=>
   simp only[Fv,acZ]at h
   obtain⟨⟨y',m1⟩,h1,heq⟩:=h
   simp only[Prod.mk.injEq]at heq;obtain⟨rfl,rfl⟩:=heq
   have q:=ayE h1
   refine⟨q.pre,q.nodup,fun _=>rfl,fun h=>by simp[AV.flat]at h,fun base hp hx=>?_⟩
   cases hx with
   |iface hy=>exact .iface (q.vr base hp hy)
  |func fn a b=>
   simp only[Fv,acL,acZ]at h
   obtain⟨⟨a',m1⟩,h1,⟨b',m2⟩,h2,heq⟩:=h
   simp only[Prod.mk.injEq]at heq;obtain⟨rfl,rfl⟩:=heq
   obtain⟨p1,p2,p3,p4⟩:=qR IH h1
   obtain⟨r1,r2,r3,r4⟩:=qR IH h2
   refine⟨p1.trans r1,fun h=>r2 (p2 h),fun _=>rfl,fun h=>by simp[AV.flat]at h,fun base hp hx=>?_⟩
   cases hx with
   |func k1 k2 k3 k4=>
    refine .func (by rw[←p3];exact k1) (by rw[←r3];exact k2) (fun i y u hy hu=>?_) (fun i y u hy hu=>?_)
    ·have hi:i<a.length:=by rw[p3];exact(aAM.1 hy).1
     obtain⟨m2,m3,q1,q2⟩:=p4 i _ y (acR hi) hy
     exact q1.vr base ((q2.trans r1).trans hp) (k3 i _ u (acR hi) hu)
    ·have hi:i<b.length:=by rw[r3];exact(aAM.1 hy).1
     obtain⟨m2,m3,q1,q2⟩:=r4 i _ y (acR hi) hy
     exact q1.vr base (q2.trans hp) (k4 i _ u (acR hi) hu)
  |yl b=>
   simp[Fv]at h;obtain⟨rfl,rfl⟩:=h
   obtain⟨p1,p2,p3⟩:=Vr m b
   refine⟨p2,p3,fun _=>rfl,fun h=>by simp[AV.flat]at h,fun base hp hx=>?_⟩
   cases hx with
   |yl hb=>exact .yl (by rw[Bq.via_at hp p1];exact hb)
   |ylD hb=>exact .ylD (by rw[Bq.via_at hp p1];exact hb)
  |mapr b=>
   simp[Fv]at h;obtain⟨rfl,rfl⟩:=h
   obtain⟨p1,p2,p3⟩:=Vr m b
   refine⟨p2,p3,fun _=>rfl,fun h=>by simp[AV.flat]at h,fun base hp hx=>?_⟩
   cases hx with
   |mapr hb=>exact .mapr (by rw[Bq.via_at hp p1];exact hb)
   |maprD hb=>exact .maprD (by rw[Bq.via_at hp p1];exact hb)
  |itr b=>
   simp[Fv]at h;obtain⟨rfl,rfl⟩:=h
   obtain⟨p1,p2,p3⟩:=Vr m b
   refine⟨p2,p3,fun _=>rfl,fun h=>by simp[AV.flat]at h,fun base hp hx=>?_⟩
   cases hx with
   |itr hb=>exact .itr (by rw[Bq.via_at hp p1];exact hb)
   |itrD hb=>exact .itrD (by rw[Bq.via_at hp p1];exact hb)
  |bool b=>exact same h (fun hx=>by cases hx;exact .bool _)
  |int k n=>exact same h (fun hx=>by cases hx;exact .int _ _)
  |str s=>exact same h (fun hx=>by cases hx;exact .str _)
  |nilp=>exact same h (fun hx=>by cases hx;exact .nilp)
  |iptr cs=>exact same h (fun hx=>by cases hx with|iptr f a b c=>exact .iptr f a b c)
  |nils=>exact same h (fun hx=>by cases hx;exact .nils)
  |imm a b c=>exact same h (fun hx=>by cases hx with|imm f a b c d e g k=>exact .imm f a b c d e g k)
  |nilm=>exact same h (fun hx=>by cases hx;exact .nilm)
  |nilf=>exact same h (fun hx=>by cases hx;exact .nilf)
  |nili=>exact same h (fun hx=>by cases hx;exact .nili)
structure anC(mf:List Nat)(rows rows':List (List AV)):Prop where
 len:rows.length=rows'.length
 row:∀(i:Nat) r r',rows[i]?=some r→rows'[i]?=some r'→r.length=r'.length∧∀(j:Nat) x x',r[j]?=some x→r'[j]?=some x'→∃m1 m2,aDA m1 m2 x x'∧m2 <+:mf
theorem ao3:∀{rows rows':List (List AV)} {m m':List Nat},Rl m rows=some (rows',m')→m <+:m'∧(m.Nodup→m'.Nodup)∧anC m' rows rows'
 | [],rows',m,m',h=>by
   simp[Rl]at h;obtain⟨rfl,rfl⟩:=h
   exact⟨aER _,id,rfl,fun i r r' hr=>by simp at hr⟩
 |r::rows,rows',m,m',h=>by
  simp only[Rl,acL,acZ]at h
  obtain⟨⟨r',m1⟩,h1,⟨rs,m2⟩,h2,heq⟩:=h
  simp only[Prod.mk.injEq]at heq;obtain⟨rfl,rfl⟩:=heq
  obtain⟨p1,p2,p3,p4⟩:=qR (fun m x x' m' h=>ayE h) h1
  obtain⟨q1,q2,q3⟩:=ao3 h2
  refine⟨p1.trans q1,fun h=>q2 (p2 h),by simp[q3.len],fun i a a' ha ha'=>?_⟩
  cases i with
  |zero=>
   simp at ha ha';subst ha ha'
   refine⟨p3,fun j x x' hx hx'=>?_⟩
   obtain⟨m3,m4,k1,k2⟩:=p4 j x x' hx hx'
   exact⟨m3,m4,k1,k2.trans q1⟩
  |succ i=>simp at ha ha';exact q3.row i a a' ha ha'
def a70(mf:List Nat)(r r':List AV):Prop:=r.length=r'.length∧∀(j:Nat) x x',r[j]?=some x→r'[j]?=some x'→∃m1 m2,aDA m1 m2 x x'∧m2 <+:mf
theorem aRD{x y:AV}(h:x.same y=true):x=y∧y.flat=true:=by
 unfold AV.same at h
 split at h
 ·simp at h;subst h;exact⟨rfl,rfl⟩
 ·simp at h;obtain⟨rfl,rfl⟩:=h;exact⟨rfl,rfl⟩
 ·simp at h;subst h;exact⟨rfl,rfl⟩
 ·cases h
theorem aNP:∀{xs ys:List AV},xs.length=ys.length→(xs.zip ys).all (fun(x,y)=>x.same y)=true→xs=ys∧ys.all AV.flat=true
 | [],[],_,_=>⟨rfl,rfl⟩
 | [],_::_,h,_=>by simp at h
 |_::_,[],h,_=>by simp at h
 |x::xs,y::ys,h,k=>by
  simp only[List.zip_cons_cons,aJZ,aC7]at k
  obtain⟨a,b⟩:=aRD k.1
  obtain⟨c,d⟩:=aNP (by simpa using h) k.2
  exact⟨by rw[a,c],by simp[b,d]⟩
def AV.plainK:AV→Bool
 | .agg cs=>cs.all AV.flat
 |x=>x.flat
theorem aPM{x y:AV}(h:x.sameKey y=true):x=y∧y.plainK=true:=by
 unfold AV.sameKey at h
 split at h
 ·simp only[aC7,beq_iff_eq]at h
  obtain⟨a,b⟩:=aNP h.1 h.2
  exact⟨by rw[a],b⟩
 ·obtain⟨a,b⟩:=aRD h
  refine⟨a,?_⟩
  cases y<;>first|exact b|(simp[AV.flat]at b)
theorem aeC:∀{xs ys:List AV},AV.sameL xs ys=true→xs=ys∧ys.all AV.plainK=true
 | [],[],_=>⟨rfl,rfl⟩
 | [],_::_,h=>by simp[AV.sameL]at h
 |_::_,[],h=>by simp[AV.sameL]at h
 |x::xs,y::ys,h=>by
  simp only[AV.sameL,aC7]at h
  obtain⟨a,b⟩:=aPM h.1
  obtain⟨c,d⟩:=aeC h.2
  exact⟨by rw[a,c],by simp[b,d]⟩
theorem aGC{d:Nat}{m m':List Nat}{x x':AV}(h:Fv d m x=some (x',m'))(hf:x'.flat=true):x=x':=by
 cases d with
 |zero=>simp[Fv]at h
 |succ d=>
  unfold Fv at h
  split at h
  all_goals first
   |(simp at h;obtain⟨rfl,_⟩:=h;first|rfl|(simp[AV.flat]at hf;done))
   |(obtain⟨_,_,heq⟩:=acZ.1 h;simp only[Prod.mk.injEq]at heq;obtain⟨rfl,_⟩:=heq;simp[AV.flat]at hf;done)
   |(simp only[acL,acZ]at h;obtain⟨_,_,_,_,heq⟩:=h;simp only[Prod.mk.injEq]at heq;obtain⟨rfl,_⟩:=heq;simp[AV.flat]at hf;done)
theorem aFK{d:Nat}:∀{xs xs':List AV} {m m':List Nat},Fv.refL (Fv d) m xs=some (xs',m')→xs'.all AV.flat=true→xs=xs'
 | [],xs',m,m',h,_=>by simp[Fv.refL]at h;exact h.1.symm
 |x::xs,xs',m,m',h,hf=>by
  simp only[Fv.refL,acL,acZ]at h
  obtain⟨⟨y,m1⟩,hy,⟨ys,m2⟩,hys,heq⟩:=h
  simp only[Prod.mk.injEq]at heq
  obtain⟨rfl,rfl⟩:=heq
  simp only[aJZ,aC7]at hf
  rw[aGC hy hf.1,aFK hys hf.2]
theorem aZL{d:Nat}{m m':List Nat}{x x':AV}(h:Fv d m x=some (x',m'))(hf:x'.plainK=true):x=x':=by
 cases x' with
 |agg cs'=>
  cases d with
  |zero=>simp[Fv]at h
  |succ d=>
   unfold Fv at h
   split at h
   all_goals first
    |(simp at h;done)
    |(simp at h;obtain⟨rfl,_⟩:=h;rfl)
    |(obtain⟨⟨q,_⟩,hq,heq⟩:=acZ.1 h;simp only[Prod.mk.injEq,AV.agg.injEq]at heq;obtain⟨rfl,_⟩:=heq;rw[aFK hq hf])
    |(obtain⟨_,_,heq⟩:=acZ.1 h;simp at heq;done)
    |(simp only[acL,acZ]at h;obtain⟨_,_,_,_,heq⟩:=h;simp at heq;done)
 |_=>exact aGC h hf
theorem aMV{d:Nat}:∀{xs xs':List AV} {m m':List Nat},Fv.refL (Fv d) m xs=some (xs',m')→xs'.all AV.plainK=true→xs=xs'
 | [],xs',m,m',h,_=>by simp[Fv.refL]at h;exact h.1.symm
 |x::xs,xs',m,m',h,hf=>by
  simp only[Fv.refL,acL,acZ]at h
  obtain⟨⟨y,m1⟩,hy,⟨ys,m2⟩,hys,heq⟩:=h
  simp only[Prod.mk.injEq]at heq
  obtain⟨rfl,rfl⟩:=heq
  simp only[aJZ,aC7]at hf
  rw[aZL hy hf.1,aMV hys hf.2]
theorem VR.plain{w w':World}{S S':Nat→Prop}{ρ ρ':Bq}{x:AV}{v:Value}(hf:x.plainK=true)(h:VR w S ρ x v):VR w' S' ρ' x v:=by
 cases x with
 |agg cs=>
  cases h with
  | @agg _ _ vs hl hc=>
    exact .agg hl fun i x u hx hu=>(hc i x u hx hu).flat (aLE.1 hf x (aqD hx))
 |_=>exact h.flat hf
theorem LR.plain{w w':World}{S S':Nat→Prop}{ρ ρ':Bq}{xs:List AV}{vs:List Value}(hf:xs.all AV.plainK=true)(h:LR w S ρ xs vs):LR w' S' ρ' xs vs:=
 ⟨h.1,fun i x v hx hv=>(h.2 i x v hx hv).plain (aLE.1 hf x (aqD hx))⟩
inductive aiK(mf:List Nat):CB→CB→Prop
 |live {st:Nat} {fl wr:Bool} {rows rows':List (List AV)}:(fl=true→rows'=rows)→(fl=false→anC mf rows rows')→aiK mf (.live st fl wr rows) (.live st fl wr rows')
 |frz {st:Nat} {fl:Bool} {rows rows':List (List AV)}:(fl=true→rows'=rows)→(fl=false→anC mf rows rows')→aiK mf (.frz st fl rows) (.frz st fl rows')
 |dead:aiK mf .dead .dead
 |lp {ps:List Nat} {asg body:Code} {tmps tmps':List AV} {st:Yk}:a70 mf tmps tmps'→(∀kvs,AV.sameL kvs tmps'=true→tmps=tmps')→aiK mf (.lp ps asg body tmps st) (.lp ps asg body tmps' st)
theorem anC.mono{m m':List Nat}{rows rows':List (List AV)}(h:anC m rows rows')(hp:m <+:m'):anC m' rows rows':=
 ⟨h.len,fun i r r' hr hr'=>⟨(h.row i r r' hr hr').1,fun j x x' hx hx'=>by obtain⟨m1,m2,k1,k2⟩:=(h.row i r r' hr hr').2 j x x' hx hx';exact⟨m1,m2,k1,k2.trans hp⟩⟩⟩
theorem aiK.mono{m m':List Nat}{c c':CB}(h:aiK m c c')(hp:m <+:m'):aiK m' c c':=by
 cases h with
 |live a b=>exact .live a (fun e=>(b e).mono hp)
 |frz a b=>exact .frz a (fun e=>(b e).mono hp)
 |dead=>exact .dead
 |lp a b=>exact .lp ⟨a.1,fun j x x' hx hx'=>by obtain⟨m1,m2,k1,k2⟩:=a.2 j x x' hx hx';exact⟨m1,m2,k1,k2.trans hp⟩⟩ b
theorem aNI{m m':List Nat}{c c':CB}(h:aiZ m c=some (c',m')):m <+:m'∧(m.Nodup→m'.Nodup)∧aiK m' c c':=by
 unfold aiZ at h
 split at h
 ·simp at h;obtain⟨rfl,rfl⟩:=h;exact⟨aER _,id,.live (fun _=>rfl) (by simp)⟩
 ·obtain⟨⟨rows',m1⟩,h1,heq⟩:=acZ.1 h
  simp only[Prod.mk.injEq]at heq;obtain⟨rfl,rfl⟩:=heq
  obtain⟨q1,q2,q3⟩:=ao3 h1
  exact⟨q1,q2,.live (by simp) (fun _=>q3)⟩
 ·simp at h;obtain⟨rfl,rfl⟩:=h;exact⟨aER _,id,.frz (fun _=>rfl) (by simp)⟩
 ·obtain⟨⟨rows',m1⟩,h1,heq⟩:=acZ.1 h
  simp only[Prod.mk.injEq]at heq;obtain⟨rfl,rfl⟩:=heq
  obtain⟨q1,q2,q3⟩:=ao3 h1
  exact⟨q1,q2,.frz (by simp) (fun _=>q3)⟩
 ·simp at h;obtain⟨rfl,rfl⟩:=h;exact⟨aER _,id,.dead⟩
 ·obtain⟨⟨tmps',m1⟩,h1,heq⟩:=acZ.1 h
  simp only[Prod.mk.injEq]at heq;obtain⟨rfl,rfl⟩:=heq
  obtain⟨p1,p2,p3,p4⟩:=qR (fun m x x' m' h=>ayE h) h1
  exact⟨p1,p2,.lp ⟨p3,p4⟩ fun kvs hk=>aMV h1 (aeC hk).2⟩
theorem aCG:∀{n:Nat} {g:HF} {i:Nat} {m m':List Nat} {cs:List CB},Rx n g i m=some (cs,m')→i≤m.length→m <+:m'∧(m.Nodup→m'.Nodup)∧i+cs.length=m'.length∧
 ∀(j:Nat) c',cs[j]?=some c'→∃b c,m'[i+j]?=some b∧g b=some c∧aiK m' c c'
 |0,_,_,_,_,_,h,_=>by simp[Rx]at h
 |n+1,g,i,m,m',cs,h,hi=>by
  unfold Rx at h
  split at h
  ·rename_i hm
   simp at h;obtain⟨rfl,rfl⟩:=h
   have:m.length≤i:=aOZ.1 hm
   exact⟨aER _,id,by simp;omega,fun j c' hc=>by simp at hc⟩
  ·rename_i b hm
   simp only[acL,acZ]at h
   obtain⟨c,hc,⟨c1,m1⟩,h1,⟨cs1,m2⟩,h2,heq⟩:=h
   simp only[Prod.mk.injEq]at heq;obtain⟨rfl,rfl⟩:=heq
   obtain⟨p1,p2,p3⟩:=aNI h1
   have hlt:i<m.length:=(aAM.1 hm).1
   have hle:m.length≤m1.length:=p1.length_le
   obtain⟨q1,q2,q3,q4⟩:=aCG h2 (show i+1≤m1.length by omega)
   refine⟨p1.trans q1,fun h=>q2 (p2 h),by simp;omega,fun j c' hj=>?_⟩
   cases j with
   |zero=>simp at hj;subst hj;exact⟨b,c,dD (p1.trans q1) (by simpa using hm),hc,p3.mono q1⟩
   |succ j=>
    simp at hj
    obtain⟨b',c0,k1,k2,k3⟩:=q4 j c' hj
    exact⟨b',c0,by rw[←k1];congr 1;omega,k2,k3⟩
theorem aEL{m m':List Nat}{vs vs':List AV}{cs:List CB}(h:Vw g m vs=some (vs',cs,m')):m <+:m'∧(m.Nodup→m'.Nodup)∧cs.length=m'.length∧
 (∀(i:Nat) c',cs[i]?=some c'→∃b c,m'[i]?=some b∧g b=some c∧aiK m' c c')∧vs.length=vs'.length∧
 ∀(i:Nat) x x',vs[i]?=some x→vs'[i]?=some x'→∃m1 m2,aDA m1 m2 x x'∧m2 <+:m':=by
 unfold Vw at h
 simp only[acL,acZ]at h
 obtain⟨⟨vs1,m1⟩,h1,⟨cs1,m2⟩,h2,heq⟩:=h
 simp only[Prod.mk.injEq]at heq;obtain⟨rfl,rfl,rfl⟩:=heq
 obtain⟨p1,p2,p3,p4⟩:=qR (fun m x x' m' h=>ayE h) h1
 obtain⟨q1,q2,q3,q4⟩:=aCG h2 (Nat.zero_le _)
 refine⟨p1.trans q1,fun h=>q2 (p2 h),by omega,fun i c' hc=>?_,p3,fun i x x' hx hx'=>?_⟩
 ·obtain⟨b,c,k1,k2,k3⟩:=q4 i c' hc;exact⟨b,c,by simpa using k1,k2,k3⟩
 ·obtain⟨m3,m4,k1,k2⟩:=p4 i x x' hx hx';exact⟨m3,m4,k1,k2.trans q1⟩
theorem Ic.ref(hS:∀b,S b→Sc b){mf:List Nat}(base:Nat){c:Array Value}{co st:Nat}{fl:Bool}{rows rows':List (List AV)}(k:Ic w S ρ c co st fl rows)
 (h1:fl=true→rows'=rows) (h2:fl=false→anC mf rows rows'):Ic w Sc (ρ.via mf base) c co st fl rows':=by
 cases fl with
 |true=>
  rw[h1 rfl]
  exact⟨k.len,k.wide,k.flat,fun i r j x hr hx=>by
   obtain⟨v,k1,k2⟩:=k.cell i r j x hr hx
   exact⟨v,k1,k2.flat (k.flat rfl r (aqD hr) x (aqD hx))⟩,k.isCell⟩
 |false=>
  have ok:=h2 rfl
  have back:∀r'∈rows',∃i r,rows[i]?=some r∧rows'[i]?=some r':=fun r' hr'=>by
   obtain⟨i,hi,rfl⟩:=aAN.1 hr'
   exact⟨i,_,acR (by rw[ok.len];exact hi),acR hi⟩
  refine⟨by rw[←ok.len];exact k.len,fun r' hr'=>?_,by simp,fun i r' j x' hr' hx'=>?_,fun r' hr' x' hx'=>?_⟩
  ·obtain⟨i,r,e1,e2⟩:=back r' hr'
   rw[←(ok.row i r r' e1 e2).1];exact k.wide r (aqD e1)
  ·have hi:i<rows.length:=by rw[ok.len];exact(aAM.1 hr').1
   have e1:rows[i]?=some rows[i]:=acR hi
   obtain⟨l,q⟩:=ok.row i _ r' e1 hr'
   have hj:j<rows[i].length:=by rw[l];exact(aAM.1 hx').1
   have e2:rows[i][j]?=some rows[i][j]:=acR hj
   obtain⟨m1,m2,k1,k2⟩:=q j _ x' e2 hx'
   obtain⟨v,k3,k4⟩:=k.cell i _ j _ e1 e2
   exact⟨v,k3,k1.vr base k2 (k4.monoS hS)⟩
  ·obtain⟨i,r,e1,e2⟩:=back r' hr'
   obtain⟨l,q⟩:=ok.row i r r' e1 e2
   obtain⟨j,hj,rfl⟩:=aAN.1 hx'
   have e3:r[j]?=some (r[j]'(by rw[l];exact hj)):=acR _
   obtain⟨m1,m2,k1,k2⟩:=q j _ _ e3 (acR hj)
   exact k1.cell (k.isCell r (aqD e1) _ (aqD e3))
theorem getD_some{m:List Nat}{i base b:Nat}(h:m.getD i base=b)(hb:b≠base):m[i]?=some b:=by
 rw[aKM]at h
 cases hm:m[i]? with
 |none=>rw[hm]at h;simp at h;exact(hb h.symm).elim
 |some b'=>rw[hm]at h;simp at h;rw[h]
theorem aQ6(H:HR w S ρ g){base:Nat}(hb:ρ base=.fresh)(hS:∀b,S b→Sc b)(hSc:∀b,Sc b→b<w.heap.size){m:List Nat}{cs:List CB}(hnd:m.Nodup)(hlen:cs.length=m.length)
 (hcs:∀(i:Nat) c',cs[i]?=some c'→∃b c,m[i]?=some b∧g b=some c∧aiK m c c')
 (hlive:∀b∈m,∀cb co st sz,ρ b=.pl cb co st sz→¬S cb→¬Sc cb) (hlp:∀b l,ρ b=.lp l→¬Sc l):HR w Sc (ρ.via m base) (hf (cs.map CB.clean)):=by
 have look:∀i cb co st sz,ρ.via m base i=.pl cb co st sz→∃b,m[i]?=some b∧ρ b=.pl cb co st sz:=fun i cb co st sz h=>by
  refine⟨m.getD i base,getD_some rfl (fun e=>?_),h⟩
  unfold Bq.via at h;rw[e,hb]at h;cases h
 have lookL:∀i l,ρ.via m base i=.lp l→∃b,m[i]?=some b∧ρ b=.lp l:=fun i l h=>by
  refine⟨m.getD i base,getD_some rfl (fun e=>?_),h⟩
  unfold Bq.via at h;rw[e,hb]at h;cases h
 refine⟨fun i cb co st sz h=>?_,fun i h=>?_,fun i i' cb co st sz co' st' sz' h h'=>?_,hSc,fun i l h=>?_,fun i i' l h h'=>?_,fun i l h=>by obtain⟨b,_,hρ⟩:=lookL i l h;exact hlp b l hρ⟩
 ·obtain⟨b,hbi,hρ⟩:=look i cb co st sz h
  obtain⟨c,e,fz,fl,rows,k1,k2,k3,k4⟩:=H.at_ b cb co st sz hρ
  have hi:i<cs.length:=by rw[hlen];exact(aAM.1 hbi).1
  obtain⟨b',c0,q1,q2,q3⟩:=hcs i _ (acR hi)
  rw[hbi]at q1;cases q1
  have hclean:hf (cs.map CB.clean) i=some (cs[i].clean):=by simp[hf,hi]
  rcases k4 with⟨⟨wr,k4⟩,hnS,hfz⟩|⟨k4,hSb⟩
  ·rw[k4]at q2;cases q2
   generalize cs[i]=ci at q3 hclean
   cases q3 with
   | @live _ _ _ _ rows' a1 a2=>
     exact⟨c,e,fz,fl,rows',k1,k2,k3.ref hS base a1 a2,.inl ⟨⟨false,by rw[hclean];rfl⟩,hlive b (aqD hbi) _ _ _ _ hρ hnS,hfz⟩⟩
  ·rw[k4]at q2;cases q2
   generalize cs[i]=ci at q3 hclean
   cases q3 with
   | @frz _ _ _ rows' a1 a2=>exact⟨c,e,fz,fl,rows',k1,k2,k3.ref hS base a1 a2,.inr ⟨by rw[hclean];rfl,hS _ hSb⟩⟩
 ·have hbi:m[i]?=some (m.getD i base):=getD_some rfl (fun e=>by unfold Bq.via at h;rw[e,hb]at h;cases h)
  have hi:i<cs.length:=by rw[hlen];exact(aAM.1 hbi).1
  obtain⟨b',c0,q1,q2,q3⟩:=hcs i _ (acR hi)
  rw[hbi]at q1;cases q1
  rw[H.dead _ h]at q2;cases q2
  have hclean:hf (cs.map CB.clean) i=some (cs[i].clean):=by simp[hf,hi]
  generalize cs[i]=ci at q3 hclean
  cases q3
  rw[hclean];rfl
 ·obtain⟨b,hbi,hρ⟩:=look _ _ _ _ _ h
  obtain⟨b',hbi',hρ'⟩:=look _ _ _ _ _ h'
  have:=H.inj _ _ _ _ _ _ _ _ _ hρ hρ'
  subst this
  have h1:=(aAM.1 hbi)
  have h2:=(aAM.1 hbi')
  exact(aOD hnd).1 (h1.2.trans h2.2.symm)
 ·obtain⟨b,hbi,hρ⟩:=lookL i l h
  obtain⟨r,ps,asg,body,tmps,st,k1,k2,k3⟩:=H.lps b l hρ
  have hi:i<cs.length:=by rw[hlen];exact(aAM.1 hbi).1
  obtain⟨b',c0,q1,q2,q3⟩:=hcs i _ (acR hi)
  rw[hbi]at q1;cases q1
  have hclean:hf (cs.map CB.clean) i=some (cs[i].clean):=by simp[hf,hi]
  rw[k2]at q2;cases q2
  generalize cs[i]=ci at q3 hclean
  cases q3 with
  | @lp _ _ _ _ tmps' _ ok=>
    have lr:∀{vs:List Value},LR w S ρ tmps vs→LR w Sc (ρ.via m base) tmps' vs:=fun k=>⟨by rw[←ok.1];exact k.1,fun j x v hx hv=>by
     have hj:j<tmps.length:=by rw[ok.1];exact(aAM.1 hx).1
     obtain⟨m1,m2,q1,q2⟩:=ok.2 j _ x (acR hj) hx
     exact q1.vr base q2 ((k.2 j _ v (acR hj) hv).monoS hS)⟩
    refine⟨r,ps,asg,body,tmps',st,k1,by rw[hclean];rfl,?_⟩
    cases k3 with
    |loop k3=>exact .loop ⟨k3.params,k3.assign,k3.body,lr k3.tmps,k3.state⟩
    |map k3=>exact .map (lr k3)
    |itr k3=>exact .itr (lr k3)
 ·obtain⟨b,hbi,hρ⟩:=lookL _ _ h
  obtain⟨b',hbi',hρ'⟩:=lookL _ _ h'
  have:=H.linj _ _ _ hρ hρ'
  subst this
  have h1:=(aAM.1 hbi)
  have h2:=(aAM.1 hbi')
  exact(aOD hnd).1 (h1.2.trans h2.2.symm)
end
structure ac7(h0:Aa)(w:World)(S:Nat→Prop)(ρ:Bq)(v:AV)(h':Aa)(cv:Value)(w':World)(S':Nat→Prop)(ρ':Bq):Prop where
 vr:VR w' S' ρ' v cv
 hr:HR w' S' ρ' (hf h')
 sim:Ix w w' S S' ρ ρ'
 dom:∀b,h'.length≤b→ρ' b=.fresh
 all:∀b,b<h'.length→ρ' b≠.fresh
 len:h0.length≤h'.length
 unw:∀(i:Nat) c c',h0[i]?=some c→h'[i]?=some c'→c.same c'=true→ρ' i=ρ i∧∀cb co st sz,ρ i=.pl cb co st sz→w'.heap[cb]?=w.heap[cb]?
section
variable {P:Program} {w w':World} {S Sc Sc':Nat→Prop} {ρ ρc':Bq} {g:HF}
theorem fU(g:HF):∀(a b:List As),Bt g (a++b)=Bt (Bt g a) b:=by
 intro a
 induction a generalizing g with
 |nil=>intro b;rfl
 |cons e a ih=>intro b;simp only[List.cons_append,Bt];exact ih (Dq g e) b
theorem acG{f:Nat→Nat}:∀{cs:List CB} {base:Nat} {ns:List As},Qe f base cs=some ns→∀(g:HF) (b:Nat),
 (¬(base≤b∧b<base+cs.length)→Bt g ns b=g b∧¬Kz ns b)∧(∀j c,cs[j]?=some c→b=base+j→∃c',Ny f c=some c'∧Bt g ns b=some c'∧As.new b c'∈ns)
 | [],base,ns,h,g,b=>by
   simp[Qe]at h;subst h
   exact⟨fun _=>⟨rfl,fun⟨e,he,_⟩=>by simp at he⟩,fun j c hc=>by simp at hc⟩
 |c::cs,base,ns,h,g,b=>by
  simp only[Qe,acL,acZ]at h
  obtain⟨c',hc',ns',hns,rfl⟩:=h
  have ih:=acG hns (upd g base c') b
  refine⟨fun hn=>?_,fun j d hd hb=>?_⟩
  ·simp at hn
   obtain⟨h1,h2⟩:=ih.1 (by omega)
   simp only[Bt,Dq]
   refine⟨by rw[h1];simp[upd];intro e;omega,fun⟨e,he,Jb⟩=>?_⟩
   rcases aC6.1 he with rfl|he
   ·simp[As.id]at Jb;omega
   ·exact h2 ⟨e,he,Jb⟩
  ·cases j with
   |zero=>
    simp at hd hb;subst hd hb
    obtain⟨h1,h2⟩:=ih.1 (by omega)
    refine⟨c',hc',?_,aAP ..⟩
    simp only[Bt,Dq];rw[h1];simp[upd]
   |succ j=>
    simp at hd
    obtain⟨c2,h3,h4,h5⟩:=ih.2 j d hd (by omega)
    exact⟨c2,h3,by simp only[Bt,Dq];exact h4,aAO _ h5⟩
theorem ab3{f:Nat→Nat}:∀{m:List Nat} {cs₀ cs:List CB} {ps:List As},Nv f m cs₀ cs=some ps→m.Nodup→∀(g:HF) (b:Nat),
 (b∉m→Bt g ps b=g b∧¬Kz ps b)∧(∀(j:Nat) c₀ c,m[j]?=some b→cs₀[j]?=some c₀→cs[j]?=some c→(c₀.same c=true∧Bt g ps b=g b∧¬Kz ps b)∨
   (c₀.same c=false∧c.unw=false∧c₀.isLive=true∧∃c',Ny f c=some c'∧Bt g ps b=some c'∧As.put b c'∈ps))
 | [],[],[],ps,h,_,g,b=>by
   simp[Nv]at h;subst h
   exact⟨fun _=>⟨rfl,fun⟨e,he,_⟩=>by simp at he⟩,fun j c c' hm=>by simp at hm⟩
 |a::m,c₀::cs₀,c::cs,ps,h,hnd,g,b=>by
  have hnd':=(List.nodup_cons.1 hnd)
  unfold Nv at h
  cases hs:c₀.same c with
  |true=>
   rw[hs]at h
   simp only[cond_true]at h
   have ih:=ab3 h hnd'.2 g b
   refine⟨fun hn=>ih.1 (fun e=>hn (aAO _ e)),fun j d d' hj hd hd'=>?_⟩
   cases j with
   |zero=>
    simp at hj hd hd';subst hj hd hd'
    exact .inl ⟨hs,ih.1 hnd'.1⟩
   |succ j=>simp at hj hd hd';exact ih.2 j d d' hj hd hd'
  |false=>
   rw[hs]at h
   simp only[cond_false]at h
   cases hu:(c.unw|| !c₀.isLive)with
   |true=>rw[hu]at h;simp at h
   |false=>
    rw[hu]at h
    have hu1:c.unw=false:=by simp at hu;exact hu.1
    have hu2:c₀.isLive=true:=by simp at hu;exact hu.2
    simp only[cond_false,acL,acZ]at h
    obtain⟨c',hc',ps',hps,rfl⟩:=h
    have ih:=ab3 hps hnd'.2 (upd g a c') b
    refine⟨fun hn=>?_,fun j d d' hj hd hd'=>?_⟩
    ·simp at hn
     obtain⟨h1,h2⟩:=ih.1 hn.2
     simp only[Bt,Dq]
     refine⟨by rw[h1];simp[upd,hn.1],fun⟨e,he,Jb⟩=>?_⟩
     rcases aC6.1 he with rfl|he
     ·simp[As.id]at Jb;exact hn.1 Jb.symm
     ·exact h2 ⟨e,he,Jb⟩
    ·cases j with
     |zero=>
      simp at hj hd hd';subst hj hd hd'
      obtain⟨h1,h2⟩:=ih.1 hnd'.1
      refine .inr ⟨hs,hu1,hu2,c',hc',?_,aAP ..⟩
      simp only[Bt,Dq];rw[h1];simp[upd]
     |succ j=>
      simp at hj hd hd'
      have hab:b≠a:=fun e=>hnd'.1 (e▸aqD hj)
      rcases ih.2 j d d' hj hd hd' with⟨k1,k2,k3⟩|⟨k1,k2,k6,c2,k3,k4,k5⟩
      ·refine .inl ⟨k1,by simp only[Bt,Dq];rw[k2];simp[upd,hab],fun⟨e,he,Jb⟩=>?_⟩
       rcases aC6.1 he with rfl|he
       ·simp[As.id]at Jb;exact hab Jb.symm
       ·exact k3 ⟨e,he,Jb⟩
      ·exact .inr ⟨k1,k2,k6,c2,k3,by simp only[Bt,Dq];exact k4,aAO _ k5⟩
 | [],[],_::_,ps,h,_,g,b=>by simp[Nv]at h
 | [],_::_,_,ps,h,_,g,b=>by simp[Nv]at h
 |_::_,[],_,ps,h,_,g,b=>by simp[Nv]at h
 |_::_,_::_,[],ps,h,_,g,b=>by simp[Nv]at h
theorem Hk(g0:HF):∀(l:List Nat) (g:HF) (b:Nat),
 ((b∉l∨∀st fl wr rows,g0 b≠some (.live st fl wr rows))→Bt g (Gu g0 l) b=g b∧¬Kz (Gu g0 l) b)∧
 (b∈l→∀st fl wr rows,g0 b=some (.live st fl wr rows)→Bt g (Gu g0 l) b=some (.frz st fl rows))
 | [],g,b=>⟨fun _=>⟨rfl,fun⟨e,he,_⟩=>by simp[Gu]at he⟩,fun h=>by simp at h⟩
 |a::l,g,b=>by
  unfold Gu
  split
  ·rename_i st0 fl0 wr0 rows0 ha
   have ih:=Hk g0 l (upd g a (.frz st0 fl0 rows0)) b
   refine⟨fun h=>?_,fun h st fl wr rows hb=>?_⟩
   ·have hab:b≠a:=fun e=>by
     rcases h with h|h
     ·exact h (e▸aAP ..)
     ·exact h _ _ _ _ (e▸ha)
    obtain⟨k1,k2⟩:=ih.1 (h.imp (fun h e=>h (aAO _ e)) id)
    refine⟨by simp only[Bt,Dq];rw[k1];simp[upd,hab],fun⟨e,he,Jb⟩=>?_⟩
    rcases aC6.1 he with rfl|he
    ·simp[As.id]at Jb;exact hab Jb.symm
    ·exact k2 ⟨e,he,Jb⟩
   ·simp only[Bt,Dq]
    by_cases hbl:b∈l
    ·exact ih.2 hbl st fl wr rows hb
    ·have hab:b=a:=by rcases aC6.1 h with h|h;exact h;exact(hbl h).elim
     subst hab
     rw[(ih.1 (.inl hbl)).1]
     rw[ha]at hb;cases hb
     simp[upd]
  ·rename_i hna
   have ih:=Hk g0 l g b
   refine⟨fun h=>ih.1 (h.imp (fun h e=>h (aAO _ e)) id),fun h st fl wr rows hb=>?_⟩
   have hab:b≠a:=fun e=>hna _ _ _ _ (e▸hb)
   exact ih.2 (by rcases aC6.1 h with h|h;exact(hab h).elim;exact h) st fl wr rows hb
theorem Ic.ren{ρ':Bq}{S':Nat→Prop}{f:Nat→Nat}(hf:∀b,ρc' b≠.fresh→ρ' (f b)=ρc' b){c:Array Value}{co st:Nat}{fl:Bool}{rows rows':List (List AV)}(k:Ic w' Sc' ρc' c co st fl rows)
 (h1:fl=true→rows'=rows) (h2:fl=false→Da (Da (Ft 8 f)) rows=some rows')
 (hV:∀r∈rows',∀x∈r,∀v,VR w' Sc' ρ' x v→VR w' S' ρ' x v):Ic w' S' ρ' c co st fl rows':=by
 cases fl with
 |true=>
  rw[h1 rfl]
  exact⟨k.len,k.wide,k.flat,fun i r j x hr hx=>by
   obtain⟨v,k1,k2⟩:=k.cell i r j x hr hx
   exact⟨v,k1,k2.flat (k.flat rfl r (aqD hr) x (aqD hx))⟩,k.isCell⟩
 |false=>
  obtain⟨o1,o2⟩:=Ht (h2 rfl)
  have back:∀r'∈rows',∃r,r∈rows∧Da (Ft 8 f) r=some r':=fun r' hr'=>by
   obtain⟨i,hi,rfl⟩:=aAN.1 hr'
   obtain⟨r,q1,q2⟩:=o2 i _ (acR hi)
   exact⟨r,aqD q1,q2⟩
  refine⟨by rw[←o1];exact k.len,fun r' hr'=>?_,by simp,fun i r' j x' hr' hx'=>?_,fun r' hr' x' hx'=>?_⟩
  ·obtain⟨r,q1,q2⟩:=back r' hr'
   rw[←(Ht q2).1];exact k.wide r q1
  ·obtain⟨r,q1,q2⟩:=o2 i r' hr'
   obtain⟨p1,p2⟩:=Ht q2
   obtain⟨x,p3,p4⟩:=p2 j x' hx'
   obtain⟨v,k1,k2⟩:=k.cell i r j x q1 p3
   exact⟨v,k1,hV r' (aqD hr') x' (aqD hx') v (VR.ren hf p4 k2)⟩
  ·obtain⟨r,q1,q2⟩:=back r' hr'
   obtain⟨p1,p2⟩:=Ht q2
   obtain⟨j,hj,rfl⟩:=aAN.1 hx'
   obtain⟨x,p3,p4⟩:=p2 j _ (acR hj)
   exact aLK p4 (k.isCell r q1 x (aqD p3))
theorem ba2{ρ':Bq}{S':Nat→Prop}{f:Nat→Nat}(hf':∀b,ρc' b≠.fresh→ρ' (f b)=ρc' b){h':Aa}(Hc:HR w' Sc' ρc' (hf h')){i cb co st sz:Nat}(hi:ρc' i=.pl cb co st sz){c c':CB}
 (hc:h'[i]?=some c) (hr:Ny f c=some c') (hV:∀x v,(c'.hasImm=false→x.flat=true∨hasImm 8 x=false)→VR w' Sc' ρ' x v→VR w' S' ρ' x v) (hS':S' cb↔Sc' cb):
 ∃(ca:Array Value) (e:TypeId) (fz:Nat × Nat) (fl:Bool) (rows:List (List AV)),w'.heap[cb]?=some (.cells ca e fz)∧ca.size=sz∧Ic w' S' ρ' ca co st fl rows∧
 (((∃wr,some c'=some (.live st fl wr rows))∧¬S' cb∧∀o,o<sz→¬(fz.1≤o∧o<fz.2))∨(some c'=some (.frz st fl rows)∧S' cb)):=by
 obtain⟨ca,e,fz,fl,rows,k1,k2,k3,k4⟩:=Hc.at_ i cb co st sz hi
 have hc':hf h' i=some c:=hc
 rcases k4 with⟨⟨wr,k4⟩,hnS,hfz⟩|⟨k4,hSb⟩
 ·rw[hc']at k4;cases k4
  cases fl with
  |true=>
   simp[Ny]at hr;subst hr
   exact⟨ca,e,fz,true,rows,k1,k2,k3.ren hf' (fun _=>rfl) (by simp) (fun r hr x hx v hv=>hv.flat (k3.flat rfl r hr x hx)),.inl ⟨⟨wr,rfl⟩,fun h=>hnS (hS'.1 h),hfz⟩⟩
  |false=>
   obtain⟨rows',ho,rfl⟩:=acZ.1 hr
   refine⟨ca,e,fz,false,rows',k1,k2,k3.ren hf' (by simp) (fun _=>ho) (fun r hr x hx v hv=>hV x v (fun hni=>.inr ?_) hv),.inl ⟨⟨wr,rfl⟩,fun h=>hnS (hS'.1 h),hfz⟩⟩
   simp only[CB.hasImm,aG6]at hni
   have:=hni r hr
   simp only[aR1,not_exists,not_and]at this
   simpa using this x hx
 ·rw[hc']at k4;cases k4
  cases fl with
  |true=>
   simp[Ny]at hr;subst hr
   exact⟨ca,e,fz,true,rows,k1,k2,k3.ren hf' (fun _=>rfl) (by simp) (fun r hr x hx v hv=>hv.flat (k3.flat rfl r hr x hx)),.inr ⟨rfl,hS'.2 hSb⟩⟩
  |false=>
   obtain⟨rows',ho,rfl⟩:=acZ.1 hr
   refine⟨ca,e,fz,false,rows',k1,k2,k3.ren hf' (by simp) (fun _=>ho) (fun r hr x hx v hv=>hV x v (fun hni=>.inr ?_) hv),.inr ⟨rfl,hS'.2 hSb⟩⟩
   simp only[CB.hasImm,aG6]at hni
   have:=hni r hr
   simp only[aR1,not_exists,not_and]at this
   simpa using this x hx
theorem a7C{ρ':Bq}{S':Nat→Prop}{f:Nat→Nat}(hf':∀b,ρc' b≠.fresh→ρ' (f b)=ρc' b){h':Aa}(Hc:HR w' Sc' ρc' (hf h')){i l:Nat}(hi:ρc' i=.lp l){c c':CB}
 (hc:h'[i]?=some c) (hr:Ny f c=some c') (hV:∀x v,(c'.hasImm=false→x.flat=true∨hasImm 8 x=false)→VR w' Sc' ρ' x v→VR w' S' ρ' x v):
 ∃(r:Obj) (ps:List Nat) (asg body:Code) (tmps:List AV) (st:Yk),w'.heap[l]?=some r∧some c'=some (.lp ps asg body tmps st)∧acO w' S' ρ' r ps asg body tmps st:=by
 obtain⟨r,ps,asg,body,tmps,st,k1,k2,k3⟩:=Hc.lps i l hi
 have hc':hf h' i=some c:=hc
 rw[hc']at k2;cases k2
 obtain⟨tmps',ho,rfl⟩:=acZ.1 hr
 obtain⟨o1,o2⟩:=Ht ho
 have lr:∀{vs:List Value},LR w' Sc' ρc' tmps vs→LR w' S' ρ' tmps' vs:=fun k=>⟨by rw[←o1];exact k.1,fun j x v hx hv=>by
  obtain⟨x0,q1,q2⟩:=o2 j x hx
  refine hV x v (fun hni=>.inr ?_) (VR.ren hf' q2 (k.2 j x0 v q1 hv))
  simp only[CB.hasImm,aG6]at hni
  simpa using hni x (aqD hx)⟩
 refine⟨r,ps,asg,body,tmps',st,k1,rfl,?_⟩
 cases k3 with
 |loop k3=>exact .loop ⟨k3.params,k3.assign,k3.body,lr k3.tmps,k3.state⟩
 |map k3=>exact .map (lr k3)
 |itr k3=>exact .itr (lr k3)
end
section
variable {P:Program} {w w':World} {S Sc Sc':Nat→Prop} {ρ ρc':Bq} {g:HF}
def aU7(ρ:Bq)(lent:List Nat)(b:Nat):Prop:=∃id∈lent,∃co st sz,ρ id=.pl b co st sz
theorem aKF(H:HR w S ρ g){base:Nat}{z:Nat}(hbf:ρ z=.fresh){m lent:List Nat}{cs:List CB}(hnd:m.Nodup)(hlen:cs.length=m.length)
 (hcs:∀(i:Nat) c',cs[i]?=some c'→∃b c,m[i]?=some b∧g b=some c∧aiK m c c')
 (hmb:∀b∈m,b<base) (hlm:∀b∈lent,b∉m) (hmf:∀b∈m,ρ b≠.fresh) (hlf:∀b∈lent,ρ b≠.fresh) {out:Gw} {h':Aa} {cv:Value} (CP:ac7 (cs.map CB.clean) w (fun b=>S b∨aU7 ρ lent b) (ρ.via m z) out.v h' cv w' Sc' ρc') (hnew:∀b,base≤b→b<base+(h'.length-m.length)→ρ b=.fresh) {d:Wz}
 (hu:Yu g base lent m cs out h'=some d):
 ∃S' ρ',VR w' S' ρ' d.out.v cv∧HR w' S' ρ' (Bt g d.es)∧Ix w w' S S' ρ ρ'∧jI (Kz d.es) w w' ρ ρ'∧lQ d.es ρ ρ':=by
 unfold Yu at hu
 simp only[acL]at hu
 obtain⟨v,hv,ps,hps,ns,hns,hu⟩:=hu
 generalize hcc:(lent.isEmpty|| !(hasImm 8 v||(ps++ns).any As.hasImm))=cc at hu
 simp only[aCF.injEq]at hu
 subst hu
 have hkl:m.length≤h'.length:=by have:=CP.len;simpa [hlen]using this
 have htl:(h'.take m.length).length=m.length:=by simp;omega
 let ρ':Bq:=fun id=>match m.idxOf? id with
  |some j=>ρc' j
  |none=>if base≤id∧id<base+(h'.length-m.length)then ρc' (m.length+(id-base))else ρ id
 have rm:∀j b,m[j]?=some b→ρ' b=ρc' j:=fun j b hj=>by
  have hmem:b∈m:=aqD hj
  cases hi:m.idxOf? b with
  |none=>exact(aLG.1 hi hmem).elim
  |some j'=>
   obtain⟨h1,h2,_⟩:=aRG.1 hi
   have h3:=aAM.1 hj
   have:j'=j:=(aOD hnd).1 (h2.trans h3.2.symm)
   show(match m.idxOf? b with|some j=>ρc' j|none=>_)=_
   rw[hi,this]
 have rn:∀b,(base≤b∧b<base+(h'.length-m.length))→ρ' b=ρc' (m.length+(b-base)):=fun b hb=>by
  have:m.idxOf? b=none:=aLG.2 (fun h=>by have:=hmb b h;omega)
  show(match m.idxOf? b with|some j=>ρc' j|none=>_)=_
  rw[this];simp[hb]
 have ro:∀b,b∉m→¬(base≤b∧b<base+(h'.length-m.length))→ρ' b=ρ b:=fun b hb hlt=>by
  have:m.idxOf? b=none:=aLG.2 hb
  show(match m.idxOf? b with|some j=>ρc' j|none=>_)=_
  rw[this];simp only;rw[if_neg hlt]
 have via:∀j b,m[j]?=some b→ρ.via m z j=ρ b:=fun j b hj=>Bq.via_at (aER _) hj
 have viaAt:∀j cb co st sz,ρ.via m z j=.pl cb co st sz→∃b,m[j]?=some b∧ρ b=.pl cb co st sz:=fun i cb co st sz h=>by
  refine⟨m.getD i z,getD_some rfl (fun e=>?_),h⟩
  unfold Bq.via at h;rw[e,hbf]at h;cases h
 have viaL:∀j l,ρ.via m z j=.lp l→∃b,m[j]?=some b∧ρ b=.lp l:=fun i l h=>by
  refine⟨m.getD i z,getD_some rfl (fun e=>?_),h⟩
  unfold Bq.via at h;rw[e,hbf]at h;cases h
 have hcl:∀i,ρc' i≠.fresh→i<h'.length:=fun i hi=>by
  rcases aHJ i h'.length with h1|h1
  ·exact h1
  ·exact(hi (CP.dom _ h1)).elim
 have hren:∀i,ρc' i≠.fresh→ρ' (Jx m base i)=ρc' i:=fun i hif=>by
  have:=hcl i hif
  unfold Jx
  by_cases hi:i<m.length
  ·rw[if_pos hi]
   exact rm i _ (by rw[aKM,acR hi];rfl)
  ·rw[if_neg hi,rn _ (by omega)];congr 1;omega
 have priv:∀id cb co st sz,ρ id=.pl cb co st sz→id∉m→(∀i co st sz,ρ.via m z i≠.pl cb co st sz)∧w'.heap[cb]?=w.heap[cb]?:=fun id cb co st sz h hn=>by
  have h1:∀i co st sz,ρ.via m z i≠.pl cb co st sz:=fun i co' st' sz' e=>by
   obtain⟨b,hb1,hb2⟩:=viaAt _ _ _ _ _ e
   exact hn ((H.inj _ _ _ _ _ _ _ _ _ h hb2)▸aqD hb1)
  refine⟨h1,CP.sim.other cb (H.lt h) h1 (fun i e=>?_)⟩
  obtain⟨b,_,hb2⟩:=viaL _ _ e
  exact H.apart hb2 h
 have privL:∀id l,ρ id=.lp l→id∉m→(∀i,ρ.via m z i≠.lp l)∧w'.heap[l]?=w.heap[l]?:=fun id l h hn=>by
  have h1:∀i,ρ.via m z i≠.lp l:=fun i e=>by
   obtain⟨b,hb1,hb2⟩:=viaL _ _ e
   exact hn ((H.linj _ _ _ h hb2)▸aqD hb1)
  obtain⟨_,_,_,_,_,_,q1,_⟩:=H.lps _ _ h
  refine⟨h1,CP.sim.other l (aEO.1 q1).1 (fun i co st sz e=>?_) h1⟩
  obtain⟨b,_,hb2⟩:=viaAt _ _ _ _ _ e
  exact H.apart h hb2
 have notcL:∀id l,ρ id=.lp l→id∉m→∀i,ρc' i≠.lp l:=fun id l h hn i e=>by
  rcases CP.sim.lrng i l e with h1|⟨i',h1⟩
  ·obtain⟨_,_,_,_,_,_,q1,_⟩:=H.lps _ _ h
   have:=(aEO.1 q1).1;omega
  ·exact(privL id l h hn).1 _ h1
 have notc:∀id cb co st sz,ρ id=.pl cb co st sz→id∉m→∀i co' st' sz',ρc' i≠.pl cb co' st' sz':=fun id cb co st sz h hn i co' st' sz' e=>by
  rcases CP.sim.rng i cb co' st' sz' e with h1|⟨i',co2,st2,sz2,h1⟩
  ·have:=H.lt h;omega
  ·exact(priv id cb co st sz h hn).1 _ _ _ _ h1
 let S':Nat→Prop:=fun b=>Sc' b∧(cc=false∨S b∨¬aU7 ρ lent b)
 have hSS':∀b,S b→S' b:=fun b hb=>⟨CP.sim.sub b (.inl hb),.inr (.inl hb)⟩
 have hle:ρ.le ρ':=fun b=>by
  by_cases hb:base≤b∧b<base+(h'.length-m.length)
  ·exact .inl (hnew b hb.1 hb.2)
  ·by_cases hm:b∈m
   ·obtain⟨j,hj,rfl⟩:=aAN.1 hm
    have hj':m[j]?=some m[j]:=acR hj
    have:=CP.sim.le j
    rw[via j _ hj']at this
    rw[rm j _ hj'];exact this
   ·exact .inr (.inl (ro b hm hb))
 have hsim:Ix w w' S S' ρ ρ':=by
  refine⟨CP.sim.size,CP.sim.os,CP.sim.tape,CP.sim.output,fun b hb=>CP.sim.keep b (.inl hb),hSS',hle,fun b hb hn hl=>CP.sim.other b hb (fun i co st sz e=>?_) (fun i e=>?_),fun id cb co st sz e=>?_,fun b hb=>?_,CP.sim.objs,CP.sim.loops,fun id l e=>?_⟩
  ·obtain⟨b',_,hb2⟩:=viaAt _ _ _ _ _ e;exact hn _ _ _ _ hb2
  ·obtain⟨b',_,hb2⟩:=viaL _ _ e;exact hl _ hb2
  ·by_cases hb:base≤id∧id<base+(h'.length-m.length)
   ·rw[rn id hb]at e
    rcases CP.sim.rng _ _ _ _ _ e with h1|⟨i',co2,st2,sz2,h1⟩
    ·exact .inl h1
    ·obtain⟨b',_,hb2⟩:=viaAt _ _ _ _ _ h1;exact .inr ⟨_,_,_,_,hb2⟩
   ·by_cases hm:id∈m
    ·obtain⟨j,hj,rfl⟩:=aAN.1 hm
     rw[rm j _ (acR hj)]at e
     rcases CP.sim.rng _ _ _ _ _ e with h1|⟨i',co2,st2,sz2,h1⟩
     ·exact .inl h1
     ·obtain⟨b',_,hb2⟩:=viaAt _ _ _ _ _ h1;exact .inr ⟨_,_,_,_,hb2⟩
    ·rw[ro id hm hb]at e;exact .inr ⟨_,_,_,_,e⟩
  ·rcases CP.sim.grow b hb.1 with(h1|⟨id,_,co,st,sz,h1⟩)|h1|⟨i,co,st,sz,h1⟩
   ·exact .inl h1
   ·exact .inr (.inr ⟨_,_,_,_,h1⟩)
   ·exact .inr (.inl h1)
   ·obtain⟨b',_,hb2⟩:=viaAt _ _ _ _ _ h1;exact .inr (.inr ⟨_,_,_,_,hb2⟩)
  ·by_cases hb:base≤id∧id<base+(h'.length-m.length)
   ·rw[rn id hb]at e
    rcases CP.sim.lrng _ _ e with h1|⟨i',h1⟩
    ·exact .inl h1
    ·obtain⟨b',_,hb2⟩:=viaL _ _ h1;exact .inr ⟨_,hb2⟩
   ·by_cases hm:id∈m
    ·obtain⟨j,hj,rfl⟩:=aAN.1 hm
     rw[rm j _ (acR hj)]at e
     rcases CP.sim.lrng _ _ e with h1|⟨i',h1⟩
     ·exact .inl h1
     ·obtain⟨b',_,hb2⟩:=viaL _ _ h1;exact .inr ⟨_,hb2⟩
    ·rw[ro id hm hb]at e;exact .inr ⟨_,e⟩
 have hV:∀(x:AV) (u:Value),(cc=true→lent≠[]→x.flat=true∨hasImm 8 x=false)→VR w' Sc' ρ' x u→VR w' S' ρ' x u:=fun x u hx hvr=>by
  cases hc:cc with
  |false=>exact hvr.monoS (fun b hb=>⟨hb,.inl hc⟩)
  |true=>
   by_cases hl:lent=[]
   ·exact hvr.monoS (fun b hb=>⟨hb,.inr (.inr (fun⟨id,Jb,_⟩=>by rw[hl]at Jb;simp at Jb))⟩)
   ·rcases hx hc hl with h|h
    ·exact hvr.flat h
    ·exact VR.noImm h hvr
 have himm:cc=true→lent≠[]→hasImm 8 v=false∧∀e∈ps++ns,e.hasImm=false:=fun hc hl=>by
  rw[hc]at hcc
  have hle':lent.isEmpty=false:=by simpa using hl
  rw[hle']at hcc
  simp only[Bool.false_or,Bool.not_eq_true',aRF,aG6]at hcc
  exact⟨hcc.1,fun e he=>by simpa using hcc.2 e he⟩
 have hSc:∀i cb co st sz,ρc' i=.pl cb co st sz→(S' cb↔Sc' cb):=fun i cb co st sz hi=>by
  refine⟨fun h=>h.1,fun h=>⟨h,.inr (.inr fun⟨id,Jb,co',st',sz',hρ⟩=>?_)⟩⟩
  exact notc id cb _ _ _ hρ (hlm id Jb) _ _ _ _ hi
 generalize hfz:(if cc=true then([]:List As)else Gu g lent)=fz
 have g1:∀b,b∉lent→Bt g fz b=g b∧¬Kz fz b:=fun b hb=>by
  rw[←hfz]
  split
  ·exact⟨rfl,fun⟨e,he,_⟩=>by simp at he⟩
  ·exact(Hk g lent g b).1 (.inl hb)
 have P1:=fun b=>ab3 hps hnd (Bt g fz) b
 have N1:=fun b=>acG hns (Bt (Bt g fz) ps) b
 have hes:Bt g (fz++ps++ns)=Bt (Bt (Bt g fz) ps) ns:=by rw[fU,fU]
 have eid:∀b,¬Kz fz b→¬Kz ps b→¬Kz ns b→¬Kz (fz++ps++ns) b:=fun b h1 h2 h3 ⟨e,he,Jb⟩=>by
  rcases aLH.1 he with he|he
  ·rcases aLH.1 he with he|he
   ·exact h1 ⟨e,he,Jb⟩
   ·exact h2 ⟨e,he,Jb⟩
  ·exact h3 ⟨e,he,Jb⟩
 have inr:∀b,¬(base≤b∧b<base+(h'.length-m.length))→Bt (Bt (Bt g fz) ps) ns b=Bt (Bt g fz) ps b∧¬Kz ns b:=fun b hb=>(N1 b).1 (by simpa using hb)
 have both:∀j b,m[j]?=some b→∃(c₀ c:CB),cs[j]?=some c₀∧h'[j]?=some c∧((c₀.same c=true∧Bt g (fz++ps++ns) b=g b∧¬Kz (fz++ps++ns) b∧ρ' b=ρ b∧∀cb co st sz,ρ b=.pl cb co st sz→w'.heap[cb]?=w.heap[cb]?)∨
  (∃c',Ny (Jx m base) c=some c'∧Bt g (fz++ps++ns) b=some c'∧As.put b c'∈ps)):=fun j b hj=>by
  have hjl:j<m.length:=(aAM.1 hj).1
  have hc0:cs[j]?=some (cs[j]'(by omega)):=acR _
  have hc1:h'[j]?=some (h'[j]'(by omega)):=acR _
  have hc2:(h'.take m.length)[j]?=some (h'[j]'(by omega)):=by rw[aPH,if_pos hjl];exact hc1
  have hbl:b∉lent:=fun h=>hlm b h (aqD hj)
  have hbb:¬(base≤b∧b<base+(h'.length-m.length)):=by have:=hmb b (aqD hj);omega
  refine⟨_,_,hc0,hc1,?_⟩
  rcases(P1 b).2 j _ _ hj hc0 hc2 with⟨k1,k2,k3⟩|⟨k1,k2,k6,c',k3,k4,k5⟩
  ·left
   have hcl:(cs.map CB.clean)[j]?=some (CB.clean (cs[j]'(by omega))):=by simp[hc0]
   have hsm:(CB.clean (cs[j]'(by omega))).same (h'[j]'(by omega))=true:=by
    generalize(cs[j]'(by omega))=x at k1 ⊢
    generalize(h'[j]'(by omega))=y at k1 ⊢
    cases x<;>cases y<;>first|exact k1|(simp only[CB.clean];exact k1)
   obtain⟨u1,u2⟩:=CP.unw j _ _ hcl hc1 hsm
   refine⟨k1,by rw[hes,(inr b hbb).1,k2,(g1 b hbl).1],eid b (g1 b hbl).2 k3 (inr b hbb).2,by rw[rm j b hj,u1,via j b hj],fun cb co st sz h=>u2 cb co st sz (by rw[via j b hj];exact h)⟩
  ·right
   exact⟨c',k3,by rw[hes,(inr b hbb).1,k4],k5⟩
 have fresh1:∀b,base≤b→∀c,h'[m.length+(b-base)]?=some c→∃c',Ny (Jx m base) c=some c'∧Bt g (fz++ps++ns) b=some c'∧As.new b c'∈ns:=fun b hb c hc=>by
  obtain⟨c',k1,k2,k3⟩:=(N1 b).2 (b-base) c (by rw[aQ7];exact hc) (by omega)
  exact⟨c',k1,by rw[hes];exact k2,k3⟩
 have other:∀b,b∉m→¬(base≤b∧b<base+(h'.length-m.length))→Bt g (fz++ps++ns) b=Bt g fz b∧¬Kz ps b∧¬Kz ns b:=fun b hb hlt=>by
  obtain⟨k1,k2⟩:=(P1 b).1 hb
  exact⟨by rw[hes,(inr b hlt).1,k1],k2,(inr b hlt).2⟩
 have at1:∀i c c' cb co st sz,h'[i]?=some c→Ny (Jx m base) c=some c'→(∃e∈ps++ns,e.hasImm=c'.hasImm)→ρc' i=.pl cb co st sz→_:=fun i c c' cb co st sz hc hr he hi=>
  ba2 (S':=S') hren CP.hr hi hc hr (fun x u hx hvr=>hV x u (fun h1 h2=>hx (by obtain⟨e,he1,he2⟩:=he;rw[←he2];exact(himm h1 h2).2 e he1)) hvr) (hSc i cb co st sz hi)
 have at1L:∀i c c' l,h'[i]?=some c→Ny (Jx m base) c=some c'→(∃e∈ps++ns,e.hasImm=c'.hasImm)→ρc' i=.lp l→_:=fun i c c' l hc hr he hi=>
  a7C (S':=S') hren CP.hr hi hc hr (fun x u hx hvr=>hV x u (fun h1 h2=>hx (by obtain⟨e,he1,he2⟩:=he;rw[←he2];exact(himm h1 h2).2 e he1)) hvr)
 have outv:(out.map fun _=>v).v=v:=by cases out<;>rfl
 refine⟨S',ρ',?_,?_,hsim,?_,fun b=>?_⟩
 ·rw[outv]
  exact hV v cv (fun h1 h2=>.inr (himm h1 h2).1) (VR.ren hren hv CP.vr)
 ·refine⟨fun id cb co st sz h=>?_,fun id h=>?_,fun a b cb co st sz co' st' sz' ha hb=>?_,fun b hb=>CP.hr.old b hb.1,fun id l h=>?_,fun a b l ha hb=>?_,fun id l h hs=>?_⟩
  ·show ∃c e fz' fl rows,_∧_∧_∧(((∃wr,Bt g (fz++ps++ns) id=_)∧_)∨(Bt g (fz++ps++ns) id=_∧_))
   by_cases hb:base≤id∧id<base+(h'.length-m.length)
   ·rw[rn id hb]at h
    have hlt:m.length+(id-base)<h'.length:=by omega
    obtain⟨c',k1,k2,k3⟩:=fresh1 id hb.1 _ (acR hlt)
    rw[k2]
    exact at1 _ _ _ _ _ _ _ (acR hlt) k1 ⟨_,aHM _ k3,rfl⟩ h
   ·by_cases hm:id∈m
    ·obtain⟨j,hj,rfl⟩:=aAN.1 hm
     have hj':m[j]?=some m[j]:=acR hj
     obtain⟨c₀,c,q1,q2,q3⟩:=both j _ hj'
     rcases q3 with⟨k0,k1,_,k2,k3⟩|⟨c',k1,k2,k3⟩
     ·rw[k2]at h
      obtain⟨ca,e,fz',fl,rows,a1,a2,a3,a4⟩:=H.at_ _ _ _ _ _ h
      refine⟨ca,e,fz',fl,rows,by rw[k3 _ _ _ _ h];exact a1,a2,a3.sim hsim,?_⟩
      rw[k1]
      rcases a4 with⟨⟨wr,a4⟩,a5,a6⟩|⟨a4,a5⟩
      ·refine .inl ⟨⟨wr,a4⟩,fun hs=>?_,a6⟩
       rcases CP.sim.grow cb hs.1 with(h1|⟨id,Jb,co2,st2,sz2,h1⟩)|h1|⟨i,co2,st2,sz2,h1⟩
       ·exact a5 h1
       ·have:=H.inj _ _ _ _ _ _ _ _ _ h h1
        exact hlm id Jb (this▸hm)
       ·have:=H.lt h;omega
       ·
        obtain⟨_,_,_,_,_,_,_,_,b4⟩:=CP.hr.at_ j cb co st sz (by rw[←rm j _ hj',k2];exact h)
        rcases b4 with⟨_,b5,_⟩|⟨b4,b5⟩
        ·exact b5 hs.1
        ·obtain⟨b',c2,r1,r2,r3⟩:=hcs j c₀ q1
         rw[hj']at r1;cases r1
         rw[a4]at r2;cases r2
         have b4':h'[j]?=some _:=b4
         rw[q2]at b4';cases b4'
         cases r3
         simp[CB.same]at k0
      ·exact .inr ⟨a4,hSS' _ a5⟩
     ·rw[rm j _ hj']at h
      rw[k2]
      exact at1 _ _ _ _ _ _ _ q2 k1 ⟨_,aIC _ k3,rfl⟩ h
    ·rw[ro id hm hb]at h
     obtain⟨ca,e,fz',fl,rows,a1,a2,a3,a4⟩:=H.at_ _ _ _ _ _ h
     obtain⟨p1,p2⟩:=priv id cb co st sz h hm
     have hoth:=(other id hm hb).1
     refine⟨ca,e,fz',fl,rows,by rw[p2];exact a1,a2,a3.sim hsim,?_⟩
     rw[hoth]
     rcases a4 with⟨⟨wr,a4⟩,a5,a6⟩|⟨a4,a5⟩
     ·by_cases hl:id∈lent
      ·have hlent:aU7 ρ lent cb:=⟨id,hl,co,st,sz,h⟩
       cases hc:cc with
       |false=>
        right
        refine⟨?_,CP.sim.sub cb (.inr hlent),.inl hc⟩
        rw[←hfz,hc]
        exact(Hk g lent g id).2 hl _ _ _ _ a4
       |true=>
        left
        refine⟨⟨wr,by rw[←hfz,hc];exact a4⟩,fun hs=>?_,a6⟩
        rcases hs.2 with h1|h1|h1
        ·rw[hc]at h1;cases h1
        ·exact a5 h1
        ·exact h1 hlent
      ·left
       refine⟨⟨wr,by rw[(g1 id hl).1];exact a4⟩,fun hs=>?_,a6⟩
       rcases CP.sim.grow cb hs.1 with(h1|⟨id',Jb,co2,st2,sz2,h1⟩)|h1|⟨i,co2,st2,sz2,h1⟩
       ·exact a5 h1
       ·exact hl ((H.inj _ _ _ _ _ _ _ _ _ h h1)▸Jb)
       ·have:=H.lt h;omega
       ·exact p1 _ _ _ _ h1
     ·right
      refine⟨?_,hSS' _ a5⟩
      rw[←hfz]
      split
      ·exact a4
      ·rw[((Hk g lent g id).1 (.inr (fun st fl wr rows e=>by rw[a4]at e;cases e))).1];exact a4
  ·show Bt g (fz++ps++ns) id=_
   by_cases hb:base≤id∧id<base+(h'.length-m.length)
   ·rw[rn id hb]at h
    have h2:=CP.hr.dead _ h
    obtain⟨c',k1,k2,k3⟩:=fresh1 id hb.1 _ h2
    simp[Ny]at k1;subst k1;exact k2
   ·by_cases hm:id∈m
    ·obtain⟨j,hj,rfl⟩:=aAN.1 hm
     have hj':m[j]?=some m[j]:=acR hj
     obtain⟨c₀,c,q1,q2,q3⟩:=both j _ hj'
     rcases q3 with⟨_,k1,_,k2,k3⟩|⟨c',k1,k2,k3⟩
     ·rw[k2]at h;rw[k1];exact H.dead _ h
     ·rw[rm j _ hj']at h
      have h2:h'[j]?=some .dead:=CP.hr.dead _ h
      rw[q2]at h2;cases h2
      simp[Ny]at k1;subst k1;exact k2
    ·rw[ro id hm hb]at h
     rw[(other id hm hb).1,←hfz]
     have hd:=H.dead _ h
     split
     ·exact hd
     ·rw[((Hk g lent g id).1 (.inr (fun st fl wr rows e=>by rw[hd]at e;cases e))).1];exact hd
  ·have look:∀id cb co st sz,ρ' id=.pl cb co st sz→(∃i,Jx m base i=id∧ρc' i=.pl cb co st sz)∨(id∉m∧ρ id=.pl cb co st sz):=fun id cb co st sz h=>by
    by_cases hb:base≤id∧id<base+(h'.length-m.length)
    ·rw[rn id hb]at h
     refine .inl ⟨_,?_,h⟩
     unfold Jx;rw[if_neg (by omega)];omega
    ·by_cases hm:id∈m
     ·obtain⟨j,hj,rfl⟩:=aAN.1 hm
      have hj':m[j]?=some m[j]:=acR hj
      rw[rm j _ hj']at h
      refine .inl ⟨j,?_,h⟩
      unfold Jx;rw[if_pos hj,aKM,hj'];rfl
     ·rw[ro id hm hb]at h;exact .inr ⟨hm,h⟩
   rcases look _ _ _ _ _ ha with⟨i,rfl,hi⟩|⟨hi1,hi2⟩<;>rcases look _ _ _ _ _ hb with⟨j,rfl,hj⟩|⟨hj1,hj2⟩
   ·rw[CP.hr.inj _ _ _ _ _ _ _ _ _ hi hj]
   ·exact(notc _ _ _ _ _ hj2 hj1 _ _ _ _ hi).elim
   ·exact(notc _ _ _ _ _ hi2 hi1 _ _ _ _ hj).elim
   ·exact H.inj _ _ _ _ _ _ _ _ _ hi2 hj2
  ·show ∃r ps' asg body tmps st,_∧Bt g (fz++ps++ns) id=_∧_
   by_cases hb:base≤id∧id<base+(h'.length-m.length)
   ·rw[rn id hb]at h
    have hlt:m.length+(id-base)<h'.length:=by omega
    obtain⟨c',k1,k2,k3⟩:=fresh1 id hb.1 _ (acR hlt)
    rw[k2]
    exact at1L _ _ _ _ (acR hlt) k1 ⟨_,aHM _ k3,rfl⟩ h
   ·by_cases hm:id∈m
    ·obtain⟨j,hj,rfl⟩:=aAN.1 hm
     have hj':m[j]?=some m[j]:=acR hj
     obtain⟨c₀,c,q1,q2,q3⟩:=both j _ hj'
     rcases q3 with⟨k0,k1,_,k2,k3⟩|⟨c',k1,k2,k3⟩
     ·have hj2:ρc' j=.lp l:=by rw[←rm j _ hj'];exact h
      rw[k2]at h
      obtain⟨r,ps0,asg,body,tmps,st,a1,a2,a3⟩:=H.lps _ _ h
      obtain⟨r',ps',asg',body',tmps',st',b1,b2,b3⟩:=CP.hr.lps j l hj2
      obtain⟨b',c2,r1,r2,r3⟩:=hcs j c₀ q1
      rw[hj']at r1;cases r1
      rw[a2]at r2;cases r2
      have b2':h'[j]?=some _:=b2
      rw[q2]at b2';cases b2'
      cases r3 with
      |lp _ key=>
      cases a3 with
      |map a3=>
       cases st'<;>simp[CB.same]at k0
       obtain⟨e1,e2⟩:=aeC k0
       subst e1
       obtain rfl:=key _ k0
       cases b3 with
       |loop b3=>exact(b3.state).elim
       |map b3=>exact⟨_,[],.skip,.skip,_,.map,b1,by rw[k1];exact a2,.map (b3.plain e2)⟩
      |itr a3=>simp[CB.same]at k0
      | @loop r _ _ _ _ _ a3=>
        obtain⟨sx,px,c1⟩:=CP.sim.loops l r a1
        rw[c1]at b1;cases b1
        refine⟨_,ps0,asg,body,tmps,st,c1,by rw[k1];exact a2,.loop ⟨a3.params,a3.assign,a3.body,LR.sim hsim a3.tmps,?_⟩⟩
        cases b3 with
        |loop b3=>
         have b5:=b3.state
         cases st<;>cases st'<;>simp[CB.same]at k0<;>exact b5
     ·rw[rm j _ hj']at h
      rw[k2]
      exact at1L _ _ _ _ q2 k1 ⟨_,aIC _ k3,rfl⟩ h
    ·rw[ro id hm hb]at h
     obtain⟨r,ps0,asg,body,tmps,st,a1,a2,a3⟩:=H.lps _ _ h
     refine⟨r,ps0,asg,body,tmps,st,by rw[(privL id l h hm).2];exact a1,?_,a3.sim hsim⟩
     rw[(other id hm hb).1,←hfz]
     split
     ·exact a2
     ·rw[((Hk g lent g id).1 (.inr (fun st fl wr rows e=>by rw[a2]at e;cases e))).1];exact a2
  ·have look:∀id l,ρ' id=.lp l→(∃i,Jx m base i=id∧ρc' i=.lp l)∨(id∉m∧ρ id=.lp l):=fun id l h=>by
    by_cases hb:base≤id∧id<base+(h'.length-m.length)
    ·rw[rn id hb]at h
     refine .inl ⟨_,?_,h⟩
     unfold Jx;rw[if_neg (by omega)];omega
    ·by_cases hm:id∈m
     ·obtain⟨j,hj,rfl⟩:=aAN.1 hm
      have hj':m[j]?=some m[j]:=acR hj
      rw[rm j _ hj']at h
      refine .inl ⟨j,?_,h⟩
      unfold Jx;rw[if_pos hj,aKM,hj'];rfl
     ·rw[ro id hm hb]at h;exact .inr ⟨hm,h⟩
   rcases look _ _ ha with⟨i,rfl,hi⟩|⟨hi1,hi2⟩<;>rcases look _ _ hb with⟨j,rfl,hj⟩|⟨hj1,hj2⟩
   ·rw[CP.hr.linj _ _ _ hi hj]
   ·exact(notcL _ _ hj2 hj1 _ hi).elim
   ·exact(notcL _ _ hi2 hi1 _ hj).elim
   ·exact H.linj _ _ _ hi2 hj2
  ·by_cases hb:base≤id∧id<base+(h'.length-m.length)
   ·rw[rn id hb]at h;exact CP.hr.lnS _ _ h hs.1
   ·by_cases hm:id∈m
    ·obtain⟨j,hj,rfl⟩:=aAN.1 hm
     rw[rm j _ (acR hj)]at h
     exact CP.hr.lnS _ _ h hs.1
    ·rw[ro id hm hb]at h
     obtain⟨_,_,_,_,_,_,q1,_⟩:=H.lps _ _ h
     have nopl:∀id co st sz,ρ id≠.pl l co st sz:=fun id co st sz e=>H.apart h e
     rcases CP.sim.grow l hs.1 with(h1|⟨id',Jb,co2,st2,sz2,h1⟩)|h1|⟨i,co2,st2,sz2,h1⟩
     ·exact H.lnS _ _ h h1
     ·exact nopl _ _ _ _ h1
     ·have:=(aEO.1 q1).1;omega
     ·obtain⟨b',_,hb2⟩:=viaAt _ _ _ _ _ h1;exact nopl _ _ _ _ hb2
 ·intro b cb co st sz h hn
  have hbb:¬(base≤b∧b<base+(h'.length-m.length)):=fun h1=>by rw[hnew b h1.1 h1.2]at h;cases h
  by_cases hm:b∈m
  ·obtain⟨j,hj,rfl⟩:=aAN.1 hm
   have hj':m[j]?=some m[j]:=acR hj
   obtain⟨c₀,c,q1,q2,q3⟩:=both j _ hj'
   rcases q3 with⟨k0,k1,_,k2,k3⟩|⟨c',k1,k2,k3⟩
   ·exact⟨by rw[k2];exact h,k3 _ _ _ _ h⟩
   ·exact(hn ⟨_,aIC _ (aHM _ k3),rfl⟩).elim
  ·exact⟨by rw[ro b hm hbb];exact h,(priv b cb co st sz h hm).2⟩
 ·show ρ' b=.fresh↔(ρ b=.fresh∧¬Kz (fz++ps++ns) b)
  have nofz:ρ b=.fresh→¬Kz fz b:=fun hb=>by
   rw[←hfz]
   split
   ·exact fun⟨e,he,_⟩=>by simp at he
   ·exact((Hk g lent g b).1 (.inl (fun hl=>hlf b hl hb))).2
  have nops:ρ b=.fresh→¬Kz ps b:=fun hb=>((P1 b).1 (fun hm=>hmf b hm hb)).2
  constructor
  ·intro h
   by_cases hr:base≤b∧b<base+(h'.length-m.length)
   ·rw[rn b hr]at h
    exact(CP.all _ (by omega) h).elim
   ·by_cases hm:b∈m
    ·obtain⟨j,hj,rfl⟩:=aAN.1 hm
     rw[rm j _ (acR hj)]at h
     exact(CP.all j (by omega) h).elim
    ·rw[ro b hm hr]at h
     exact⟨h,eid b (nofz h) (nops h) (inr b hr).2⟩
  ·rintro⟨h1,h2⟩
   by_cases hr:base≤b∧b<base+(h'.length-m.length)
   ·obtain⟨c',_,_,k3⟩:=fresh1 b hr.1 _ (acR (by omega:m.length+(b-base)<h'.length))
    exact(h2 ⟨_,aHM _ k3,rfl⟩).elim
   ·rw[ro b (fun hm=>hmf b hm h1) hr];exact h1
end
def aeZ:Nat→List As→Prop
 |_,[]=>True
 |n,.new b _::es=>b=n∧aeZ (n+1) es
 |n,.cells b _ _ _::es=>b<n∧aeZ n es
 |n,.put b _::es=>b<n∧aeZ n es
theorem aO5{h:Aa}{b:Nat}(hb:b<h.length)(c:CB):hf (h.set b c)=upd (hf h) b c:=by
 funext i
 simp only[hf,upd,List.getElem?_set]
 by_cases hi:i=b
 ·subst hi;simp[hb]
 ·simp[hi,Ne.symm hi]
theorem a2A(h:Aa)(c:CB):hf (h++[c])=upd (hf h) h.length c:=by
 funext i
 simp only[hf,upd,List.getElem?_append]
 by_cases hi:i<h.length
 ·simp[hi];intro e;omega
 ·by_cases hi2:i=h.length
  ·subst hi2;simp
  ·simp[hi,hi2]
   have:i-h.length≠0:=by omega
   omega
theorem zA:∀{es:List As} {h:Aa},aeZ h.length es→hf (Eh h es)=Bt (hf h) es∧h.length≤(Eh h es).length∧(∀b,Kz es b→b<(Eh h es).length)∧(∀b,h.length≤b→b<(Eh h es).length→Kz es b)
 | [],h,_=>⟨rfl,aE9 _,fun b ⟨e,he,_⟩=>by simp at he,fun b h1 h2=>by simp[Eh]at h2;omega⟩
 |e::es,h,ok=>by
  have key:∀h1:Aa,cM h e=h1→hf h1=Dq (hf h) e→h.length≤h1.length→e.id<h1.length→(∀b,h.length≤b→b<h1.length→e.id=b)→aeZ h1.length es→
   hf (Eh h (e::es))=Bt (hf h) (e::es)∧h.length≤(Eh h (e::es)).length∧(∀b,Kz (e::es) b→b<(Eh h (e::es)).length)∧(∀b,h.length≤b→b<(Eh h (e::es)).length→Kz (e::es) b):=by
   intro h1 e1 e2 e3 e4 e5 ok1
   obtain⟨k1,k2,k3,k4⟩:=zA ok1
   simp only[Eh,Bt,e1]
   refine⟨by rw[k1,e2],by omega,fun b ⟨x,hx,Jb⟩=>?_,fun b q1 q2=>?_⟩
   ·rcases aC6.1 hx with rfl|hx
    ·omega
    ·exact k3 b ⟨x,hx,Jb⟩
   ·rcases aHJ b h1.length with q3|q3
    ·exact⟨e,aAP ..,e5 b q1 q3⟩
    ·obtain⟨x,hx,Jb⟩:=k4 b q3 q2;exact⟨x,aAO _ hx,Jb⟩
  cases e with
  |new b c=>
   obtain⟨rfl,ok1⟩:=ok
   exact key (h++[c]) rfl (a2A h c) (by simp) (by simp[As.id]) (fun b q1 q2=>by simp at q2;simp[As.id];omega) (by simpa using ok1)
  |put b c=>
   obtain⟨hb,ok1⟩:=ok
   exact key (h.set b c) rfl (aO5 hb c) (by simp) (by simp[As.id,hb]) (fun b q1 q2=>by simp at q2;omega) (by simpa using ok1)
  |cells b r o vs=>
   obtain⟨hb,ok1⟩:=ok
   cases hc:h[b]? with
   |none=>exact key h (by simp[cM,hc]) (by simp[Dq,hf,hc]) (aE9 _) hb (fun b q1 q2=>by omega) ok1
   |some c=>
    cases c with
    |live st fl w rows=>exact key (h.set b (.live st (fl&&vs.all AV.flat) true (Xg rows r o vs))) (by simp only[cM,hc]) (by rw[aO5 hb];simp only[Dq,hf,hc]) (by simp) (by simp[As.id,hb]) (fun b q1 q2=>by simp at q2;omega) (by simpa using ok1)
    |frz st fl rows=>exact key h (by simp[cM,hc]) (by simp[Dq,hf,hc]) (aE9 _) hb (fun b q1 q2=>by omega) ok1
    |dead=>exact key h (by simp[cM,hc]) (by simp[Dq,hf,hc]) (aE9 _) hb (fun b q1 q2=>by omega) ok1
    |lp _ _ _ _ _=>exact key h (by simp[cM,hc]) (by simp[Dq,hf,hc]) (aE9 _) hb (fun b q1 q2=>by omega) ok1
structure Gy(h:Aa)(es:List As):Prop where
 ok:aeZ h.length es
 touched:∀b,Kz es b→b<h.length→(∃c0,hf h b=some c0∧c0.isLive=true)∧∀c,Bt (hf h) es b=some c→c.unw=false
 untouched:∀b,¬Kz es b→Bt (hf h) es b=hf h b
theorem Ue{h:Aa}{b:Nat}{c:CB}(e:hf h b=some c):b<h.length:=(aAM.1 e).1
theorem Gy.nil(h:Aa):Gy h []:=⟨trivial,fun b ⟨e,he,_⟩=>by simp at he,fun _ _=>rfl⟩
theorem Gy.new(h:Aa)(c:CB):Gy h [.new h.length c]:=by
 refine⟨⟨rfl,trivial⟩,fun b ⟨e,he,Jb⟩ hb=>?_,fun b hn=>?_⟩
 ·simp at he;subst he;simp[As.id]at Jb;omega
 ·simp only[Bt,Dq,upd]
  rw[if_neg (fun e=>hn ⟨_,aLI.2 rfl,e.symm⟩)]
theorem Gy.cells{h:Aa}{b st r o:Nat}{fl wr:Bool}{rows:List (List AV)}{vs:List AV}(hb:hf h b=some (.live st fl wr rows)):Gy h [.cells b r o vs]:=by
 refine⟨⟨Ue hb,trivial⟩,fun b' ⟨e,he,Jb⟩ _=>?_,fun b' hn=>?_⟩
 ·simp at he;subst he;simp[As.id]at Jb;subst Jb
  refine⟨⟨_,hb,rfl⟩,fun c hc=>?_⟩
  simp only[Bt,Dq,hb,upd]at hc
  simp at hc;subst hc;rfl
 ·simp only[Bt,Dq,hb,upd]
  rw[if_neg (fun e=>hn ⟨_,aLI.2 rfl,e.symm⟩)]
theorem Gy.move{h:Aa}{b st:Nat}{fl wr:Bool}{rows:List (List AV)}(c:CB)(hb:hf h b=some (.live st fl wr rows)):Gy h [.put b .dead,.new h.length c]:=by
 have hlt:=Ue hb
 refine⟨⟨hlt,rfl,trivial⟩,fun b' ⟨e,he,Jb⟩ hb'=>?_,fun b' hn=>?_⟩
 ·simp at he
  rcases he with rfl|rfl
  ·simp[As.id]at Jb;subst Jb
   refine⟨⟨_,hb,rfl⟩,fun c' hc=>?_⟩
   simp only[Bt,Dq,upd]at hc
   rw[if_neg (by omega)]at hc
   simp at hc;subst hc;rfl
  ·simp[As.id]at Jb;omega
 ·simp only[Bt,Dq,upd]
  rw[if_neg (fun e=>hn ⟨_,aAO _ (aLI.2 rfl),e.symm⟩),if_neg (fun e=>hn ⟨_,aAP ..,e.symm⟩)]
theorem Gy.putMap{h:Aa}{b:Nat}{kvs kvs':List AV}{Wy lst':Yk}(hb:hf h b=some (.lp [] .skip .skip kvs Wy)):Gy h [.put b (.lp [] .skip .skip kvs' lst')]:=by
 refine⟨⟨Ue hb,trivial⟩,fun b' ⟨e,he,Jb⟩ _=>?_,fun b' hn=>?_⟩
 ·simp at he;subst he;simp[As.id]at Jb;subst Jb
  refine⟨⟨_,hb,rfl⟩,fun c hc=>?_⟩
  simp[Bt,Dq,upd]at hc;subst hc;rfl
 ·simp only[Bt,Dq,upd]
  rw[if_neg (fun e=>hn ⟨_,aLI.2 rfl,e.symm⟩)]
theorem aF8{P:Program}{g:HF}{s d:TypeId}{x:AV}{dd:Kx}(h:uS P g s d x=some dd):dd.es=[]:=by
 unfold uS at h
 split at h
 ·split at h
  ·split at h
   ·simp at h
   ·simp only[acL,acZ]at h
    obtain⟨⟨fl,rows,fs⟩,_,l,_,rfl⟩:=h;rfl
  ·simp at h
 ·obtain⟨v,_,rfl⟩:=acZ.1 h;rfl
theorem aND{P:Program}{base:Nat}{t:TypeId}{x:AV}{d:Kx}(h:aFX P base t x=some d):∃s,d.es=[.new base (.lp [] .skip .skip s .itr)]:=by
 unfold aFX at h
 split at h
 ·simp at h;subst h;exact⟨_,rfl⟩
 ·simp at h
theorem aSB{g:HF}{x:AV}{d:Kx}(h:aC0 g x=some d):d.es=[]∨∃b kvs kvs',g b=some (.lp [] .skip .skip kvs .itr)∧d.es=[.put b (.lp [] .skip .skip kvs' .itr)]:=by
 unfold aC0 at h
 split at h
 ·split at h
  ·rename_i hg
   split at h
   ·obtain rfl:=aCF.inj h
    exact .inr ⟨_,_,_,hg,rfl⟩
   ·obtain rfl:=aCF.inj h
    exact .inl rfl
  ·simp at h
 ·simp at h
theorem aCC{P:Program}{g:HF}{t:TypeId}{m k:AV}{ok:Bool}{d:Kx}(h:Wq P g t m k ok=some d):d.es=[]:=by
 unfold Wq at h
 split at h
 ·split at h
  ·simp only[acL]at h
   obtain⟨kvs,_,r,_,z,_,h⟩:=h
   simp only[aCF.injEq]at h;subst h;rfl
  ·simp at h
 ·simp at h
theorem aP9{g:HF}{b:Nat}{kvs:List AV}(h:afH g b=some kvs):g b=some (.lp [] .skip .skip kvs .map):=by
 unfold afH at h
 split at h
 ·rename_i hg;simp at h;subst h;exact hg
 ·simp at h
theorem agZ{P:Program}{g:HF}{t:TypeId}{m k v:AV}{d:Kx}(h:Rh P g t m k v=some d):∃b kvs kvs',g b=some (.lp [] .skip .skip kvs .map)∧d.es=[.put b (.lp [] .skip .skip kvs' .map)]:=by
 unfold Rh at h
 split at h
 ·split at h
  ·simp only[acL]at h
   obtain⟨kvs,h1,r,_,h⟩:=h
   have hg:=aP9 h1
   split at h
   ·split at h<;>simp at h
    subst h;exact⟨_,_,_,hg,rfl⟩
   ·simp at h;subst h;exact⟨_,_,_,hg,rfl⟩
  ·simp at h
 ·simp at h
theorem aIA{P:Program}{h:Aa}{tmps:List AV}{o:Op}{d:Kx}(he:exec P (hf h) h.length tmps o=some d):Gy h d.es:=by
 have pure':∀{x:Option AV} {d:Kx},Na x=some d→Gy h d.es:=fun hx=>by
  obtain⟨v,_,rfl⟩:=acZ.1 hx;exact .nil h
 have new':∀{v:AV} {d:Kx},aCJ h.length v=some d→Gy h d.es:=fun hx=>by
  unfold aCJ at hx
  split at hx<;>simp at hx
  subst hx;exact .new h _
 cases o with
 |move x=>exact pure' he
 |assign x=>exact pure' he
 |pick a b c=>
  simp only[exec,acL]at he
  obtain⟨c,_,x,_,y,_,he⟩:=he
  split at he<;>simp at he
  subst he;exact .nil h
 |alloc t=>obtain⟨z,_,he⟩:=acL.1 he;exact new' he
 |box t x=>obtain⟨z,_,he⟩:=acL.1 he;exact new' he
 |build t ps=>obtain⟨z,_,he⟩:=acL.1 he;exact pure' he
 |buildSlice t n ps=>
  obtain⟨z,_,he⟩:=acL.1 he
  unfold Eu at he
  simp only[acL]at he
  obtain⟨e,_,n,_,z,_,he⟩:=he
  split at he
  ·simp at he
  ·obtain⟨rows,_,he⟩:=acL.1 he
   split at he<;>simp at he
   subst he;exact .new h _
 |load t x=>
  obtain⟨p,_,he⟩:=acL.1 he
  unfold iG at he
  simp only[acL]at he
  obtain⟨isA,_,n,_,he⟩:=he
  split at he
  ·split at he<;>simp at he;subst he;exact .nil h
  ·obtain⟨cs,_,he⟩:=acL.1 he
   split at he<;>simp at he;subst he;exact .nil h
  ·simp at he;subst he;exact .nil h
  ·obtain⟨cs,_,he⟩:=acL.1 he
   obtain⟨v,_,rfl⟩:=acZ.1 he;exact .nil h
  ·simp at he
 |store t x y=>
  simp only[exec,acL]at he
  obtain⟨p,_,v,_,he⟩:=he
  unfold pZ at he
  obtain⟨n,_,he⟩:=acL.1 he
  cases p with
  |ptr b r o=>
   simp only at he
   split at he
   ·rename_i hg
    obtain⟨cs,_,he⟩:=acL.1 he
    split at he<;>simp at he
    subst he;exact .cells hg
   ·simp at he
  |_=>simp at he
 |nilCheck x=>
  obtain⟨p,_,he⟩:=acL.1 he
  split at he<;>simp at he<;>subst he<;>exact .nil h
 |binOp op t x y ty=>
  simp only[exec,acL]at he
  obtain⟨p,_,v,_,he⟩:=he;exact pure' he
 |unOp op t x=>obtain⟨z,_,he⟩:=acL.1 he;exact pure' he
 |convert s t x=>
  obtain⟨z,_,he⟩:=acL.1 he
  rw[aF8 he];exact .nil h
 |range t x=>
  obtain⟨z,_,he⟩:=acL.1 he
  obtain⟨s,hs⟩:=aND he
  rw[hs];exact .new h _
 |next x is=>
  cases is with
  |false=>simp[exec]at he
  |true=>
   obtain⟨z,_,he⟩:=acL.1 he
   rcases aSB he with e|⟨b,kvs,kvs',hg,e⟩
   ·rw[e];exact .nil h
   ·rw[e];exact .putMap hg
 |makeMap t r=>
  cases r with
  |some r=>simp[exec]at he
  |none=>simp[exec]at he;subst he;exact .new h _
 |lookup t x y ok=>
  simp only[exec,acL]at he
  obtain⟨p,_,v,_,he⟩:=he
  rw[aCC he];exact .nil h
 |mapUpdate t x y z=>
  simp only[exec,acL]at he
  obtain⟨p,_,v,_,u,_,he⟩:=he
  obtain⟨b,kvs,kvs',h1,h2⟩:=agZ he
  rw[h2];exact .putMap h1
 |insert t x y z=>
  simp only[exec,acL]at he
  obtain⟨p,_,v,_,u,_,he⟩:=he
  obtain⟨b,kvs,kvs',h1,h2⟩:=agZ he
  rw[h2];exact .putMap h1
 |makeInterface t x=>
  obtain⟨z,_,he⟩:=acL.1 he
  split at he<;>simp at he;subst he;exact .nil h
 |makeFunc fn xs ys=>
  cases fn with
  |func f=>
   simp only[exec,acL]at he
   obtain⟨p,_,v,_,he⟩:=he
   simp at he;subst he;exact .nil h
  |_=>simp[exec]at he
 |makeSlice t x y=>
  simp only[exec,acL]at he
  obtain⟨p,_,v,_,he⟩:=he
  unfold Og at he
  simp only[acL]at he
  obtain⟨e,_,n,_,b,_,z,_,he⟩:=he
  split at he
  ·split at he<;>simp at he;subst he;exact .new h _
  ·simp at he
 |slice t x lo hi mx=>
  cases mx with
  |some m=>simp[exec]at he
  |none=>
   simp only[exec,acL]at he
   obtain⟨p,_,v,_,u,_,he⟩:=he;exact pure' he
 |fieldAddr t x f=>obtain⟨z,_,he⟩:=acL.1 he;exact pure' he
 |field t x f=>obtain⟨z,_,he⟩:=acL.1 he;exact pure' he
 |indexAddr t x y=>
  simp only[exec,acL]at he
  obtain⟨p,_,v,_,he⟩:=he;exact pure' he
 |index t x y=>
  simp only[exec,acL]at he
  obtain⟨p,_,v,_,he⟩:=he;exact pure' he
 |extract x i=>
  obtain⟨z,_,he⟩:=acL.1 he
  split at he
  ·exact pure' he
  ·simp at he
 |call c=>
  obtain⟨cal,args,ts⟩:=c
  cases cal with
  |builtin b=>
   obtain⟨vs,_,he⟩:=acL.1 he
   split at he
   ·obtain⟨t,_,he⟩:=acL.1 he;exact pure' he
   ·simp only[acL]at he
    obtain⟨t,_,t1,_,he⟩:=he
    have app:∀{s x:AV},Oc P (hf h) h.length t s x=some d→Gy h d.es:=fun ha=>by
     unfold Oc at ha
     simp only[acL]at ha
     obtain⟨e,_,n,_,b,_,z,_,⟨nfl,new,fs⟩,_,ha⟩:=ha
     simp only at ha
     split at ha
     ·simp at ha
     ·split at ha
      ·split at ha<;>simp at ha<;>subst ha<;>exact .nil h
      ·split at ha<;>simp at ha
       subst ha;exact .new h _
      ·split at ha
       ·rename_i hg
        split at ha<;>simp at ha
        subst ha;exact .move _ hg
       ·simp at ha
      ·simp at ha
    split at he
    ·exact app he
    ·exact app he
    ·simp at he
   ·exact pure' he
   ·exact pure' he
   ·exact pure' he
   ·exact pure' he
   ·simp at he
  |_=>simp[exec]at he
 |_=>simp[exec]at he
theorem rZ:∀{a b:List As} {n:Nat},aeZ n a→(∀e∈a,∀i c,e≠.new i c)→aeZ n b→aeZ n (a++b)
 | [],b,n,_,_,hb=>hb
 | .new i c::a,b,n,_,hn,_=>(hn _ (aAP ..) i c rfl).elim
 | .cells i r o vs::a,b,n,ha,hn,hb=>⟨ha.1,rZ ha.2 (fun e he=>hn e (aAO _ he)) hb⟩
 | .put i c::a,b,n,ha,hn,hb=>⟨ha.1,rZ ha.2 (fun e he=>hn e (aAO _ he)) hb⟩
theorem aB6:∀{es:List As} {n:Nat},(∀e∈es,∃b c,e=.put b c∧b<n)→aeZ n es
 | [],_,_=>trivial
 |e::es,n,h=>by
  obtain⟨b,c,rfl,hb⟩:=h e (aAP ..)
  exact⟨hb,aB6 (fun e he=>h e (aAO _ he))⟩
theorem aGK{f:Nat→Nat}:∀{cs:List CB} {base:Nat} {ns:List As},Qe f base cs=some ns→aeZ base ns
 | [],base,ns,h=>by simp[Qe]at h;subst h;trivial
 |c::cs,base,ns,h=>by
  simp only[Qe,acL,acZ]at h
  obtain⟨c',_,ns',hns,rfl⟩:=h
  exact⟨rfl,aGK hns⟩
theorem ahJ{f:Nat→Nat}:∀{m:List Nat} {cs₀ cs:List CB} {ps:List As},Nv f m cs₀ cs=some ps→∀e∈ps,∃(j b:Nat) (c₀ c c':CB),e=.put b c'∧m[j]?=some b∧cs₀[j]?=some c₀∧cs[j]?=some c∧Ny f c=some c'∧c.unw=false∧c₀.isLive=true
 | [],[],[],ps,h,e,he=>by simp[Nv]at h;subst h;simp at he
 |a::m,c₀::cs₀,c::cs,ps,h,e,he=>by
  unfold Nv at h
  cases hs:c₀.same c with
  |true=>
   rw[hs]at h
   obtain⟨j,b,d0,d,d',k1,k2,k3,k4,k5⟩:=ahJ (by simpa using h) e he
   exact⟨j+1,b,d0,d,d',k1,by simpa using k2,by simpa using k3,by simpa using k4,k5⟩
  |false=>
   rw[hs]at h
   simp only[cond_false]at h
   cases hu:(c.unw|| !c₀.isLive)with
   |true=>rw[hu]at h;simp at h
   |false=>
    rw[hu]at h
    have hu1:c.unw=false:=by simp at hu;exact hu.1
    have hu2:c₀.isLive=true:=by simp at hu;exact hu.2
    simp only[cond_false,acL,acZ]at h
    obtain⟨c',hc',ps',hps,rfl⟩:=h
    rcases aC6.1 he with rfl|he
    ·exact⟨0,a,c₀,c,c',rfl,rfl,rfl,rfl,hc',hu1,hu2⟩
    ·obtain⟨j,b,d0,d,d',k1,k2,k3,k4,k5⟩:=ahJ hps e he
     exact⟨j+1,b,d0,d,d',k1,by simpa using k2,by simpa using k3,by simpa using k4,k5⟩
 | [],[],_::_,ps,h,_,_=>by simp[Nv]at h
 | [],_::_,_,ps,h,_,_=>by simp[Nv]at h
 |_::_,[],_,ps,h,_,_=>by simp[Nv]at h
 |_::_,_::_,[],ps,h,_,_=>by simp[Nv]at h
theorem aNH{f:Nat→Nat}{m:List Nat}{cs₀ cs:List CB}{ps:List As}(h:Nv f m cs₀ cs=some ps){b:Nat}(hn:¬Kz ps b)(g:HF):Bt g ps b=g b:=by
 have aux:∀(es:List As) (g:HF),(∀e∈es,∃b c,e=As.put b c)→¬Kz es b→Bt g es b=g b:=by
  intro es
  induction es with
  |nil=>intro g _ _;rfl
  |cons e es ih=>
   intro g hp hn
   obtain⟨b',c',rfl⟩:=hp e (aAP ..)
   simp only[Bt,Dq]
   rw[ih _ (fun e he=>hp e (aAO _ he)) (fun⟨e,he,Jb⟩=>hn ⟨e,aAO _ he,Jb⟩)]
   simp only[upd];rw[if_neg (fun e=>hn ⟨_,aAP ..,e.symm⟩)]
 exact aux ps g (fun e he=>by obtain⟨j,b,c₀,c,c',k1,_⟩:=ahJ h e he;exact⟨b,c',k1⟩) hn
theorem qP{g:HF}:∀{l:List Nat} {e:As},e∈Gu g l→∃b st fl wr rows,e=.put b (.frz st fl rows)∧b∈l∧g b=some (.live st fl wr rows)
 | [],e,h=>by simp[Gu]at h
 |a::l,e,h=>by
  unfold Gu at h
  split at h
  ·rename_i st fl wr rows hg
   rcases aC6.1 h with rfl|h
   ·exact⟨a,st,fl,wr,rows,rfl,aAP ..,hg⟩
   ·obtain⟨b,st,fl,wr,rows,k1,k2,k3⟩:=qP h;exact⟨b,st,fl,wr,rows,k1,aAO _ k2,k3⟩
  ·obtain⟨b,st,fl,wr,rows,k1,k2,k3⟩:=qP h;exact⟨b,st,fl,wr,rows,k1,aAO _ k2,k3⟩
theorem aV3{f:Nat→Nat}{c c':CB}(h:Ny f c=some c'):c'.unw=c.unw:=by
 unfold Ny at h
 split at h
 ·simp at h;subst h;rfl
 ·obtain⟨r,_,rfl⟩:=acZ.1 h;rfl
 ·simp at h;subst h;rfl
 ·obtain⟨r,_,rfl⟩:=acZ.1 h;rfl
 ·simp at h;subst h;rfl
 ·obtain⟨r,_,rfl⟩:=acZ.1 h;rfl
theorem aNK{h:Aa}{m lent:List Nat}{cs:List CB}(hnd:m.Nodup)(hlen:cs.length=m.length)(hcs:∀(i:Nat) c',cs[i]?=some c'→∃b c,m[i]?=some b∧hf h b=some c∧aiK m c c')(hlm:∀b∈lent,b∉m)
 {out:Gw} {h':Aa} {d:Wz} (hu:Yu (hf h) h.length lent m cs out h'=some d):Gy h d.es:=by
 unfold Yu at hu
 simp only[acL]at hu
 obtain⟨v,hv,ps,hps,ns,hns,hu⟩:=hu
 generalize(lent.isEmpty|| !(hasImm 8 v||(ps++ns).any As.hasImm))=cc at hu
 simp only[aCF.injEq]at hu
 subst hu
 generalize hfz:(if cc=true then([]:List As)else Gu (hf h) lent)=fz
 have fzm:∀e∈fz,∃b st fl wr rows,e=.put b (.frz st fl rows)∧b∈lent∧hf h b=some (.live st fl wr rows):=fun e he=>by
  rw[←hfz]at he
  split at he
  ·simp at he
  ·exact qP he
 have psm:=ahJ hps
 have hmg:∀j b c₀,m[j]?=some b→cs[j]?=some c₀→∃c,hf h b=some c∧aiK m c c₀:=fun j b c₀ hj hc=>by
  obtain⟨b',c,k1,k2,k3⟩:=hcs j c₀ hc
  rw[hj]at k1;cases k1;exact⟨c,k2,k3⟩
 have hmb:∀b∈m,b<h.length:=fun b hb=>by
  obtain⟨j,hj,rfl⟩:=aAN.1 hb
  obtain⟨c,k1,_⟩:=hmg j _ _ (acR hj) (acR (by omega:j<cs.length))
  exact Ue k1
 show Gy h (fz++ps++ns)
 have hes:Bt (hf h) (fz++ps++ns)=Bt (Bt (Bt (hf h) fz) ps) ns:=by rw[fU,fU]
 have P1:=fun b=>ab3 hps hnd (Bt (hf h) fz) b
 have N1:=fun b=>acG hns (Bt (Bt (hf h) fz) ps) b
 have F1:∀b,¬Kz fz b→Bt (hf h) fz b=hf h b:=fun b hb=>by
  rw[←hfz]at hb ⊢
  split
  ·rfl
  ·rename_i hc
   rw[if_neg hc]at hb
   by_cases hl:b∈lent
   ·by_cases hlv:∀st fl wr rows,hf h b≠some (.live st fl wr rows)
    ·exact((Hk (hf h) lent (hf h) b).1 (.inr hlv)).1
    ·exfalso
     simp only[Classical.not_forall,ne_eq,Classical.not_not]at hlv
     obtain⟨st,fl,wr,rows,hg⟩:=hlv
     have h2:=(Hk (hf h) lent (hf h) b).2 hl st fl wr rows hg
     have h3:Bt (hf h) (Gu (hf h) lent) b=hf h b:=by
      have aux:∀(es:List As) (g:HF),(∀e∈es,∃b c,e=As.put b c)→¬Kz es b→Bt g es b=g b:=by
       intro es
       induction es with
       |nil=>intro g _ _;rfl
       |cons e es ih=>
        intro g hp hn
        obtain⟨b',c',rfl⟩:=hp e (aAP ..)
        simp only[Bt,Dq]
        rw[ih _ (fun e he=>hp e (aAO _ he)) (fun⟨e,he,Jb⟩=>hn ⟨e,aAO _ he,Jb⟩)]
        simp only[upd];rw[if_neg (fun e=>hn ⟨_,aAP ..,e.symm⟩)]
      exact aux _ _ (fun e he=>by obtain⟨b,st,fl,wr,rows,k1,_⟩:=qP he;exact⟨b,_,k1⟩) hb
     rw[h2,hg]at h3;cases h3
   ·exact((Hk (hf h) lent (hf h) b).1 (.inl hl)).1
 have nsid:∀b,Kz ns b→h.length≤b:=fun b he=>by
  rcases aHJ b h.length with h1|h1
  ·exact(((N1 b).1 (by omega)).2 he).elim
  ·exact h1
 have psid:∀b,Kz ps b→b∈m:=fun b he=>by
  by_cases hm:b∈m
  ·exact hm
  ·exact(((P1 b).1 hm).2 he).elim
 have fzid:∀b,Kz fz b→b∈lent∧∃st fl wr rows,hf h b=some (.live st fl wr rows)∧Bt (hf h) fz b=some (.frz st fl rows):=fun b ⟨e,he,Jb⟩=>by
  obtain⟨b',st,fl,wr,rows,k1,k2,k3⟩:=fzm e he
  subst k1;simp[As.id]at Jb;subst Jb
  refine⟨k2,st,fl,wr,rows,k3,?_⟩
  rw[←hfz]at he ⊢
  split
  ·rename_i hc;rw[if_pos hc]at he;simp at he
  ·exact(Hk (hf h) lent (hf h) b').2 k2 st fl wr rows k3
 refine⟨?_,fun b he hb=>?_,fun b hn=>?_⟩
 ·rw[List.append_assoc]
  refine rZ (aB6 (fun e he=>?_)) (fun e he i c=>?_) (rZ (aB6 (fun e he=>?_)) (fun e he i c=>?_) (aGK hns))
  ·obtain⟨b,st,fl,wr,rows,k1,k2,k3⟩:=fzm e he;exact⟨b,_,k1,Ue k3⟩
  ·obtain⟨b,st,fl,wr,rows,k1,k2,k3⟩:=fzm e he;rw[k1];simp
  ·obtain⟨j,b,c₀,c,c',k1,k2,_⟩:=psm e he;exact⟨b,_,k1,hmb b (aqD k2)⟩
  ·obtain⟨j,b,c₀,c,c',k1,k2,_⟩:=psm e he;rw[k1];simp
 ·have hnb:¬Kz ns b:=fun h1=>by have:=nsid b h1;omega
  have hn1:=((N1 b).1 (by omega)).1
  rw[hes,hn1]
  obtain⟨e,he1,Jb⟩:=he
  rcases aLH.1 he1 with he1|he1
  ·rcases aLH.1 he1 with he1|he1
   ·obtain⟨hl,st,fl,wr,rows,k1,k2⟩:=fzid b ⟨e,he1,Jb⟩
    refine⟨⟨_,k1,rfl⟩,fun c hc=>?_⟩
    rw[((P1 b).1 (hlm b hl)).1,k2]at hc;cases hc;rfl
   ·obtain⟨j,b',c₀,c,c',k1,k2,k3,k4,k5,k6,k7⟩:=psm e he1
    subst k1;simp[As.id]at Jb;subst Jb
    obtain⟨c2,q1,q2⟩:=hmg j _ _ k2 k3
    refine⟨?_,fun c3 hc3=>?_⟩
    ·cases q2 with
     |live _ _=>exact⟨_,q1,rfl⟩
     |lp _=>exact⟨_,q1,rfl⟩
     |_=>simp[CB.isLive]at k7
    ·rcases(P1 b').2 j c₀ c k2 k3 k4 with⟨r1,r2,r3⟩|⟨r1,r2,r3,c4,r4,r5,r6⟩
     ·exact(r3 ⟨_,he1,rfl⟩).elim
     ·rw[r5]at hc3;cases hc3
      rw[aV3 r4];exact r2
  ·exact(hnb ⟨e,he1,Jb⟩).elim
 ·have n1:¬Kz fz b:=fun⟨e,he,Jb⟩=>hn ⟨e,aIC _ (aIC _ he),Jb⟩
  have n2:¬Kz ps b:=fun⟨e,he,Jb⟩=>hn ⟨e,aIC _ (aHM _ he),Jb⟩
  have n3:¬Kz ns b:=fun⟨e,he,Jb⟩=>hn ⟨e,aHM _ he,Jb⟩
  have e3:Bt (Bt (Bt (hf h) fz) ps) ns b=Bt (Bt (hf h) fz) ps b:=by
   by_cases hr:h.length≤b∧b<h.length+(h'.drop m.length).length
   ·obtain⟨c',k1,k2,k3⟩:=(N1 b).2 (b-h.length) _ (acR (by omega:b-h.length<(h'.drop m.length).length)) (by omega)
    exact(n3 ⟨_,k3,rfl⟩).elim
   ·exact((N1 b).1 hr).1
  have e2:Bt (Bt (hf h) fz) ps b=Bt (hf h) fz b:=by
   exact aNH hps n2 _
  rw[hes,e3,e2,F1 b n1]
structure FI(h0:Aa)(w0:World)(S0:Nat→Prop)(ρ0:Bq)(h:Aa)(w:World)(S:Nat→Prop)(ρ:Bq):Prop where
 hr:HR w S ρ (hf h)
 sim:Ix w0 w S0 S ρ0 ρ
 dom:∀b,h.length≤b→ρ b=.fresh
 all:∀b,b<h.length→ρ b≠.fresh
 all0:∀b,b<h0.length→ρ0 b≠.fresh
 len:h0.length≤h.length
 kind:∀(i:Nat) c,h0[i]?=some c→c.isLive=false→h[i]?=some c
 unw:∀(i:Nat) c c',h0[i]?=some c→h[i]?=some c'→c.same c'=true→ρ i=ρ0 i∧∀cb co st sz,ρ0 i=.pl cb co st sz→w.heap[cb]?=w0.heap[cb]?
theorem FI.start{h:Aa}{w:World}{S:Nat→Prop}{ρ:Bq}(H:HR w S ρ (hf h))(dom:∀b,h.length≤b→ρ b=.fresh)(all:∀b,b<h.length→ρ b≠.fresh):FI h w S ρ h w S ρ:=
 ⟨H,Ix.refl _ _ _,dom,all,all,aE9 _,fun _ _ h _=>h,fun _ _ _ _ _ _=>⟨rfl,fun _ _ _ _ _=>rfl⟩⟩
theorem FI.step{h0:Aa}{w0:World}{S0:Nat→Prop}{ρ0:Bq}{h:Aa}{w:World}{S:Nat→Prop}{ρ:Bq}(F:FI h0 w0 S0 ρ0 h w S ρ){es:List As}(G:Gy h es){w':World}{S':Nat→Prop}{ρ':Bq}
 (H:HR w' S' ρ' (Bt (hf h) es)) (hs:Ix w w' S S' ρ ρ') (hl:jI (Kz es) w w' ρ ρ') (hfr:lQ es ρ ρ'):FI h0 w0 S0 ρ0 (Eh h es) w' S' ρ':=by
 obtain⟨k1,k2,k3,k4⟩:=zA G.ok
 have at':∀(i:Nat) c,(Eh h es)[i]?=some c→Bt (hf h) es i=some c:=fun i c hc=>by rw[←k1];exact hc
 have of':∀(i:Nat) c,Bt (hf h) es i=some c→(Eh h es)[i]?=some c:=fun i c hc=>by rw[←k1]at hc;exact hc
 refine⟨by rw[k1];exact H,F.sim.trans hs,fun b hb=>?_,fun b hb hf'=>?_,F.all0,Nat.le_trans F.len k2,fun i c hc hl'=>?_,fun i c c' hc hc' hsame=>?_⟩
 ·exact(hfr b).2 ⟨F.dom b (by omega),fun he=>by have:=k3 b he;omega⟩
 ·obtain⟨h1,h2⟩:=(hfr b).1 hf'
  rcases aHJ b h.length with h3|h3
  ·exact F.all b h3 h1
  ·exact h2 (k4 b h3 hb)
 ·have hi:=F.kind i c hc hl'
  refine of' i c ?_
  rw[G.untouched i (fun he=>?_)]
  ·exact hi
  ·obtain⟨⟨c0,h1,h1'⟩,_⟩:=G.touched i he (Ue (h:=h) hi)
   have h2:hf h i=some c:=hi
   rw[h2]at h1;cases h1;rw[hl']at h1';cases h1'
 ·have hi0:i<h0.length:=(aAM.1 hc).1
  have hi:i<h.length:=Nat.lt_of_lt_of_le hi0 F.len
  by_cases hlp:∃ps asg body tmps st,c'=.lp ps asg body tmps st
  ·obtain⟨ps,asg,body,tmps,st,rfl⟩:=hlp
   have hg:=at' i _ hc'
   have hle:=(F.sim.trans hs).le i
   rcases hle with q|q|q
   ·exact(F.all0 i hi0 q).elim
   ·refine⟨q,fun cb co st sz h0'=>?_⟩
    obtain⟨_,_,_,_,_,_,_,_,a4⟩:=H.at_ i cb co st sz (q.trans h0')
    rcases a4 with⟨⟨_,a4⟩,_⟩|⟨a4,_⟩<;>rw[hg]at a4<;>cases a4
   ·have:=H.dead i q
    rw[hg]at this;cases this
  by_cases he:Kz es i
  ·obtain⟨⟨c0,h1,h1'⟩,h2⟩:=G.touched i he hi
   have h3:=h2 c' (at' i c' hc')
   cases c with
   |lp a b e f k=>
    cases c' with
    |lp a b e f k=>exact(hlp ⟨_,_,_,_,_,rfl⟩).elim
    |_=>cases k<;>simp[CB.same]at hsame
   |live a b e f=>cases c' with
    |live a' b' e' f'=>simp[CB.same]at hsame;simp[CB.unw,hsame]at h3
    |_=>simp[CB.same]at hsame
   |frz a b e=>
    have:=F.kind i _ hc rfl
    have h4:hf h i=some _:=this
    rw[h4]at h1;cases h1;cases h1'
   |dead=>
    have:=F.kind i _ hc rfl
    have h4:hf h i=some _:=this
    rw[h4]at h1;cases h1;cases h1'
  ·have hci:h[i]?=some c':=by have:=at' i c' hc';rw[G.untouched i he]at this;exact this
   obtain⟨u1,u2⟩:=F.unw i c c' hc hci hsame
   have hρ':ρ' i=ρ i:=by
    cases hρ:ρ i with
    |fresh=>exact(F.all i hi hρ).elim
    |dead=>
     rcases hs.le i with q|q|q
     ·rw[hρ]at q;cases q
     ·rw[q,hρ]
     ·exact q
    |pl cb co st sz=>exact(hl i cb co st sz hρ he).1
    |lp l=>
     obtain⟨_,_,_,_,_,_,_,q1,_⟩:=F.hr.lps i l hρ
     have hci':hf h i=some c':=hci
     rw[hci']at q1;cases q1
     exact(hlp ⟨_,_,_,_,_,rfl⟩).elim
   refine⟨by rw[hρ',u1],fun cb co st sz h0'=>?_⟩
   rw[(hl i cb co st sz (by rw[u1];exact h0') he).2]
   exact u2 cb co st sz h0'
theorem a5I{g:HF}{base:Nat}{h:Aa}(hh:hOf g base=some h):h.length=base∧∀(i:Nat) c,h[i]?=some c→g i=some c:=by
 obtain⟨h1,h2⟩:=Ht hh
 refine⟨by simpa using h1.symm,fun i c hc=>?_⟩
 obtain⟨a,ha,hg⟩:=h2 i c hc
 have hi:i<base:=by
  have:=(aAM.1 ha).1;simpa using this
 rw[List.getElem?_range hi]at ha
 cases ha;exact hg
theorem aZF(h:Aa):hOf (hf h) h.length=some h:=by
 have aux:∀(n:Nat),n≤h.length→Da (hf h) (List.range' (h.length-n) n)=some (h.drop (h.length-n)):=by
  intro n
  induction n with
  |zero=>intro _;simp[Da]
  |succ n ih=>
   intro hn
   have e:h.length-(n+1)+1=h.length-n:=by omega
   rw[List.range'_succ,e]
   have hlt:h.length-(n+1)<h.length:=by omega
   have e2:hf h (h.length-(n+1))=some h[h.length-(n+1)]:=acR hlt
   simp only[Da]
   rw[e2,Option.bind_some,ih (by omega),aOW]
   rw[List.drop_eq_getElem_cons hlt,e]
 have:=aux h.length (aE9 _)
 simp only[Nat.sub_self,List.drop_zero]at this
 unfold hOf
 rw[aOX];exact this
theorem aGG:∀{cs:List CB} {i:Nat} (g:HF) (b:Nat),(b<i→Bt g (Xw i cs) b=g b∧¬Kz (Xw i cs) b)∧(∀k c,b=i+k→cs[k]?=some c→Bt g (Xw i cs) b=some c∧Kz (Xw i cs) b)∧(∀k,b=i+k→cs.length≤k→Bt g (Xw i cs) b=g b∧¬Kz (Xw i cs) b)
 | [],i,g,b=>⟨fun _=>⟨rfl,fun⟨e,he,_⟩=>by simp[Xw]at he⟩,fun k c _ hc=>by simp at hc,fun _ _ _=>⟨rfl,fun⟨e,he,_⟩=>by simp[Xw]at he⟩⟩
 |c0::cs,i,g,b=>by
  obtain⟨a1,a2,a3⟩:=aGG (cs:=cs) (i:=i+1) (Dq g (.new i c0)) b
  have hne:b≠i→Dq g (.new i c0) b=g b:=fun h=>by simp[Dq,upd,h]
  have heid:b≠i→¬Kz (Xw (i+1) cs) b→¬Kz (Xw i (c0::cs)) b:=fun h1 h2 ⟨e,he,Jb⟩=>by
   simp only[Xw,aC6]at he
   rcases he with rfl|he
   ·exact h1 Jb.symm
   ·exact h2 ⟨e,he,Jb⟩
  refine⟨fun h=>?_,fun k c hb hc=>?_,fun k hb hk=>?_⟩
  ·obtain⟨q1,q2⟩:=a1 (by omega)
   exact⟨by simp only[Xw,Bt];rw[q1,hne (by omega)],heid (by omega) q2⟩
  ·cases k with
   |zero=>
    simp at hc;subst hc
    obtain⟨q1,q2⟩:=a1 (by omega)
    exact⟨by simp only[Xw,Bt];rw[q1];simp[Dq,upd,hb],_,aAP ..,by simp[As.id,hb]⟩
   |succ k=>
    obtain⟨q1,e,he,Jb⟩:=a2 k c (by omega) (by simpa using hc)
    exact⟨by simp only[Xw,Bt];exact q1,e,aAO _ he,Jb⟩
  ·cases k with
   |zero=>simp at hk
   |succ k=>
    obtain⟨q1,q2⟩:=a3 k (by omega) (by simpa using hk)
    exact⟨by simp only[Xw,Bt];rw[q1,hne (by omega)],heid (by omega) q2⟩
theorem aX6(c:CB):c.mark.unw=false:=by cases c<;>rfl
structure a84(i:Nat)(h h':Aa)(es:List As)(g:HF)(b:Nat):Prop where
 low:b<i→Bt g es b=g b∧¬Kz es b
 both:∀k c₀ c,b=i+k→h[k]?=some c₀→h'[k]?=some c→(c₀.quiet c=true∧Bt g es b=g b∧¬Kz es b)∨(c₀.isLive=true∧Bt g es b=some c.mark∧Kz es b)
 new:∀k c,b=i+k→h.length≤k→h'[k]?=some c→Bt g es b=some c∧Kz es b
 high:∀k,b=i+k→h'.length≤k→Bt g es b=g b∧¬Kz es b
theorem lU:∀{h h':Aa} {i:Nat} {es:List As},Iw i h h'=some es→h.length≤h'.length∧∀(g:HF) (b:Nat),a84 i h h' es g b
 | [],h',i,es,hs=>by
   simp only[Iw,aCF.injEq]at hs
   subst hs
   refine⟨by simp,fun g b=>?_⟩
   obtain⟨a1,a2,a3⟩:=aGG (cs:=h') (i:=i) g b
   exact⟨a1,fun k c₀ c _ hc=>by simp at hc,fun k c hb _ hc=>a2 k c hb hc,fun k hb hk=>a3 k hb hk⟩
 |c₀::h,[],i,es,hs=>by simp[Iw]at hs
 |c₀::h,c::h',i,es,hs=>by
  simp only[Iw]at hs
  cases hq:c₀.quiet c with
  |true=>
   rw[hq]at hs
   simp only[cond_true]at hs
   obtain⟨l,sp⟩:=lU hs
   refine⟨by simpa using l,fun g b=>?_⟩
   have s:=sp g b
   refine⟨fun hb=>s.low (by omega),fun k x y hb hx hy=>?_,fun k y hb hk hy=>?_,fun k hb hk=>?_⟩
   ·cases k with
    |zero=>
     simp at hx hy;subst hx hy
     exact .inl ⟨hq,s.low (by omega)⟩
    |succ k=>exact s.both k x y (by omega) (by simpa using hx) (by simpa using hy)
   ·cases k with
    |zero=>simp at hk
    |succ k=>exact s.new k y (by omega) (by simpa using hk) (by simpa using hy)
   ·cases k with
    |zero=>simp at hk
    |succ k=>exact s.high k (by omega) (by simpa using hk)
  |false=>
   rw[hq]at hs
   simp only[cond_false]at hs
   cases hlive:c₀.isLive with
   |false=>rw[hlive]at hs;simp at hs
   |true=>
   rw[hlive]at hs
   simp only[cond_true]at hs
   obtain⟨es',hs',rfl⟩:=acZ.1 hs
   obtain⟨l,sp⟩:=lU hs'
   refine⟨by simpa using l,fun g b=>?_⟩
   have s:=sp (Dq g (.put i c.mark)) b
   have hne:b≠i→Dq g (.put i c.mark) b=g b:=fun h=>by simp[Dq,upd,h]
   have heid:b≠i→¬Kz es' b→¬Kz (.put i c.mark::es') b:=fun h1 h2 ⟨e,he,Jb⟩=>by
    rcases aC6.1 he with rfl|he
    ·exact h1 Jb.symm
    ·exact h2 ⟨e,he,Jb⟩
   have yes:Kz es' b→Kz (.put i c.mark::es') b:=fun⟨e,he,Jb⟩=>⟨e,aAO _ he,Jb⟩
   refine⟨fun hb=>?_,fun k x y hb hx hy=>?_,fun k y hb hk hy=>?_,fun k hb hk=>?_⟩
   ·obtain⟨q1,q2⟩:=s.low (by omega)
    exact⟨by simp only[Bt];rw[q1,hne (by omega)],heid (by omega) q2⟩
   ·cases k with
    |zero=>
     simp at hx hy;subst hx hy
     obtain⟨q1,q2⟩:=s.low (by omega)
     refine .inr ⟨hlive,?_,_,aAP ..,by simp[As.id,hb]⟩
     simp only[Bt];rw[q1];simp[Dq,upd,hb]
    |succ k=>
     rcases s.both k x y (by omega) (by simpa using hx) (by simpa using hy)with⟨q1,q3,q4⟩|⟨q1,q2,q3⟩
     ·exact .inl ⟨q1,by simp only[Bt];rw[q3,hne (by omega)],heid (by omega) q4⟩
     ·exact .inr ⟨q1,by simp only[Bt];exact q2,yes q3⟩
   ·cases k with
    |zero=>simp at hk
    |succ k=>
     obtain⟨q1,q2⟩:=s.new k y (by omega) (by simpa using hk) (by simpa using hy)
     exact⟨by simp only[Bt];exact q1,yes q2⟩
   ·cases k with
    |zero=>
     simp at hk
    |succ k=>
     obtain⟨q1,q2⟩:=s.high k (by omega) (by simpa using hk)
     exact⟨by simp only[Bt];rw[q1,hne (by omega)],heid (by omega) q2⟩
theorem HR.clean{w:World}{S:Nat→Prop}{ρ:Bq}{h:Aa}(H:HR w S ρ (hf h)):HR w S ρ (hf (h.map CB.clean)):=by
 have get:∀(i:Nat) c,hf h i=some c→hf (h.map CB.clean) i=some c.clean:=fun i c hc=>by
  have hc':h[i]?=some c:=hc
  simp[hf,hc']
 refine⟨fun b cb co st sz hb=>?_,fun b hb=>by simpa [CB.clean]using get b _ (H.dead b hb),H.inj,H.old,fun b l hb=>?_,H.linj,H.lnS⟩
 ·obtain⟨c,e,fz,fl,rows,h1,h2,h3,h4⟩:=H.at_ b cb co st sz hb
  refine⟨c,e,fz,fl,rows,h1,h2,h3,?_⟩
  rcases h4 with⟨⟨wr,h4⟩,h5⟩|⟨h4,h5⟩
  ·exact .inl ⟨⟨false,get b _ h4⟩,h5⟩
  ·exact .inr ⟨get b _ h4,h5⟩
 ·obtain⟨r,ps,asg,body,tmps,st,h1,h2,h3⟩:=H.lps b l hb
  exact⟨r,ps,asg,body,tmps,st,h1,get b _ h2,h3⟩
theorem aQY{c₀ c:CB}(h:c₀.quiet c=true):c₀.clean.same c=true:=by
 cases c₀<;>cases c<;>simp_all[CB.quiet,CB.clean,CB.same]
theorem HR.listed{w:World}{S:Nat→Prop}{ρ:Bq}{g:HF}(H:HR w S ρ g){h:Aa}(hh:∀(i:Nat) c,h[i]?=some c→g i=some c)(hd:∀b,ρ b≠.fresh→b<h.length):HR w S ρ (hf h):=by
 have get:∀(i:Nat),ρ i≠.fresh→∀c,g i=some c→hf h i=some c:=fun i hi c hc=>by
  have hlt:=hd i hi
  have h1:=hh i _ (acR hlt)
  rw[hc]at h1;cases h1
  simp[hf,acR hlt]
 refine⟨fun b cb co st sz h=>?_,fun b h=>?_,H.inj,H.old,fun b l h=>?_,H.linj,H.lnS⟩
 ·obtain⟨c,e,fz,fl,rows,h1,h2,h3,h4⟩:=H.at_ b cb co st sz h
  have hn:ρ b≠.fresh:=by rw[h];simp
  refine⟨c,e,fz,fl,rows,h1,h2,h3,?_⟩
  rcases h4 with⟨⟨wr,h4⟩,h5⟩|⟨h4,h5⟩
  ·exact .inl ⟨⟨wr,get b hn _ h4⟩,h5⟩
  ·exact .inr ⟨get b hn _ h4,h5⟩
 ·exact get b (by rw[h];simp) _ (H.dead b h)
 ·obtain⟨r,ps,asg,body,tmps,st,h1,h4,h3⟩:=H.lps b l h
  exact⟨r,ps,asg,body,tmps,st,h1,get b (by rw[h];simp) _ h4,h3⟩
theorem aKV{w w':World}{S S':Nat→Prop}{ρ ρ':Bq}{g:HF}(H:HR w S ρ g){h h':Aa}(hh:∀(i:Nat) c,h[i]?=some c→g i=some c)(hno:∀b,h.length≤b→g b=none){v:AV}{cv:Value}(CP:ac7 (h.map CB.clean) w S ρ v h' cv w' S' ρ'){es:List As}(hu:Iw 0 h h'=some es):
 VR w' S' ρ' v cv∧HR w' S' ρ' (Bt g es)∧Ix w w' S S' ρ ρ'∧jI (Kz es) w w' ρ ρ'∧lQ es ρ ρ':=by
 obtain⟨hlen,sp⟩:=lU hu
 have nof:∀b,ρ b≠.fresh→g b≠none:=fun b hb=>by
  cases hρ:ρ b with
  |fresh=>exact(hb hρ).elim
  |dead=>rw[H.dead b hρ];simp
  |lp l=>obtain⟨_,_,_,_,_,_,_,q,_⟩:=H.lps b l hρ;rw[q];simp
  |pl cb co st sz=>
   obtain⟨_,_,_,_,_,_,_,_,q⟩:=H.at_ b cb co st sz hρ
   rcases q with⟨⟨wr,q⟩,_⟩|⟨q,_⟩<;>(rw[q];simp)
 have frs:∀b,h.length≤b→ρ b=.fresh:=fun b hb=>by
  by_cases hρ:ρ b=.fresh
  ·exact hρ
  ·exact(nof b hρ (hno b hb)).elim
 have keep:∀b c₀ c,h[b]?=some c₀→h'[b]?=some c→c₀.quiet c=true→ρ' b=ρ b∧(∀cb co st sz,ρ b=.pl cb co st sz→w'.heap[cb]?=w.heap[cb]?):=fun b c₀ c h0 h1 hs=>
  CP.unw b c₀.clean c (by simp[h0]) h1 (aQY hs)
 have look:∀b c,h'[b]?=some c→Bt g es b=some c∨Bt g es b=some c.mark∨∃c₀,h[b]?=some c₀∧c₀.quiet c=true∧Bt g es b=some c₀:=fun b c hc=>by
  by_cases hb:b<h.length
  ·have h0:h[b]?=some h[b]:=acR hb
   rcases(sp g b).both b _ c (by omega) h0 hc with⟨q1,q2,_⟩|⟨_,q4,_⟩
   ·exact .inr (.inr ⟨_,h0,q1,by rw[q2];exact hh b _ h0⟩)
   ·exact .inr (.inl q4)
  ·exact .inl ((sp g b).new b c (by omega) (by omega) hc).1
 refine⟨CP.vr,?_,CP.sim,?_,fun b=>?_⟩
 ·refine⟨fun b cb co st sz hρ=>?_,fun b hρ=>?_,CP.hr.inj,CP.hr.old,fun b l hρ=>?_,CP.hr.linj,CP.hr.lnS⟩
  ·obtain⟨ca,e,fz,fl,rows,a1,a2,a3,a4⟩:=CP.hr.at_ b cb co st sz hρ
   have hget:∃c,h'[b]?=some c:=by
    rcases a4 with⟨⟨wr,a4⟩,_⟩|⟨a4,_⟩<;>exact⟨_,a4⟩
   obtain⟨c,hc⟩:=hget
   rcases look b c hc with hl|hl|⟨c₀,h0,hs,k3⟩
   ·refine⟨ca,e,fz,fl,rows,a1,a2,a3,?_⟩
    rcases a4 with⟨⟨wr,a4⟩,a5⟩|⟨a4,a5⟩
    ·have:h'[b]?=some _:=a4
     rw[hc]at this;cases this
     exact .inl ⟨⟨wr,hl⟩,a5⟩
    ·have:h'[b]?=some _:=a4
     rw[hc]at this;cases this
     exact .inr ⟨hl,a5⟩
   ·refine⟨ca,e,fz,fl,rows,a1,a2,a3,?_⟩
    rcases a4 with⟨⟨wr,a4⟩,a5⟩|⟨a4,a5⟩
    ·have:h'[b]?=some _:=a4
     rw[hc]at this;cases this
     exact .inl ⟨⟨true,hl⟩,a5⟩
    ·have:h'[b]?=some _:=a4
     rw[hc]at this;cases this
     exact .inr ⟨hl,a5⟩
   ·obtain⟨k1,k2⟩:=keep b c₀ c h0 hc hs
    have hρ0:ρ b=.pl cb co st sz:=by rw[←k1];exact hρ
    obtain⟨ca',e',fz',fl',rows',b1,b2,b3,b4⟩:=H.at_ b cb co st sz hρ0
    have b1':=k2 _ _ _ _ hρ0
    rw[b1]at b1'
    refine⟨ca',e',fz',fl',rows',b1',b2,b3.sim CP.sim,?_⟩
    have hg:=hh b c₀ h0
    rw[k3]
    rcases b4 with⟨⟨wr,b4⟩,_⟩|⟨b4,b5⟩
    ·rw[hg]at b4;cases b4
     rcases a4 with⟨⟨wr',a4⟩,a5⟩|⟨a4,a5⟩
     ·rw[a1]at b1';cases b1'
      exact .inl ⟨⟨wr,rfl⟩,a5⟩
     ·have:h'[b]?=some _:=a4
      rw[hc]at this;cases this
      simp[CB.quiet,CB.same]at hs
    ·rw[hg]at b4;cases b4
     exact .inr ⟨rfl,CP.sim.sub _ b5⟩
  ·have hd:=CP.hr.dead b hρ
   rcases look b _ hd with hl|hl|⟨c₀,h0,hs,k3⟩
   ·exact hl
   ·exact hl
   ·rw[k3]
    cases c₀<;>first|rfl|(simp[CB.quiet,CB.same]at hs)
  ·obtain⟨r,ps,asg,body,tmps,st,b1,b2,b3⟩:=CP.hr.lps b l hρ
   rcases look b _ b2 with hl|hl|⟨c₀,h0,hs,k3⟩
   ·exact⟨r,ps,asg,body,tmps,st,b1,hl,b3⟩
   ·exact⟨r,ps,asg,body,tmps,st,b1,hl,b3⟩
   ·obtain⟨k1,_⟩:=keep b c₀ _ h0 b2 hs
    have hρ0:ρ b=.lp l:=by rw[←k1];exact hρ
    obtain⟨r0,ps0,asg0,body0,tmps0,st0,d1,d2,d3⟩:=H.lps b l hρ0
    rw[hh b c₀ h0]at d2;cases d2
    cases d3 with
    |map d3=>
     cases st<;>simp[CB.quiet,CB.same]at hs
     obtain⟨e1,e2⟩:=aeC hs
     subst e1
     cases b3 with
     |loop b3=>exact(b3.state).elim
     |map b3=>exact⟨_,[],.skip,.skip,_,.map,b1,k3,.map (b3.plain e2)⟩
    |itr d3=>simp[CB.quiet,CB.same]at hs
    | @loop r0 _ _ _ _ _ d3=>
      obtain⟨stq,peq,d4⟩:=CP.sim.loops l r0 d1
      rw[b1]at d4;cases d4
      refine⟨_,ps0,asg0,body0,tmps0,st0,b1,k3,.loop ⟨d3.params,d3.assign,d3.body,d3.tmps.sim CP.sim,?_⟩⟩
      cases b3 with
      |loop b3=>
       have hst:=b3.state
       cases st0<;>cases st<;>simp[CB.quiet,CB.same]at hs<;>exact hst
 ·intro b cb co st sz hρ hn
  have hb:b<h.length:=by
   rcases aHJ b h.length with h1|h1
   ·exact h1
   ·rw[frs b h1]at hρ;cases hρ
  have h0:h[b]?=some h[b]:=acR hb
  have h1:h'[b]?=some (h'[b]'(by omega)):=acR (by omega)
  rcases(sp g b).both b _ _ (by omega) h0 h1 with⟨q1,_⟩|⟨_,_,q5⟩
  ·obtain⟨k1,k2⟩:=keep b _ _ h0 h1 q1
   exact⟨by rw[k1];exact hρ,k2 _ _ _ _ hρ⟩
  ·exact(hn q5).elim
 ·constructor
  ·intro hf'
   have hb:h'.length≤b:=by
    rcases aHJ b h'.length with h1|h1
    ·exact(CP.all b h1 hf').elim
    ·exact h1
   exact⟨frs b (by omega),((sp g b).high b (by omega) hb).2⟩
  ·rintro⟨hf',hn⟩
   refine CP.dom b ?_
   rcases aHJ b h'.length with h1|h1
   ·exfalso
    by_cases hb:b<h.length
    ·have h0:h[b]?=some h[b]:=acR hb
     rcases(sp g b).both b _ _ (by omega) h0 (acR h1)with⟨q1,_⟩|⟨_,_,q5⟩
     ·obtain⟨k1,_⟩:=keep b _ _ h0 (acR h1) q1
      exact CP.all b h1 (by rw[k1];exact hf')
     ·exact hn q5
    ·exact hn ((sp g b).new b _ (by omega) (by omega) (acR h1)).2
   ·exact h1
theorem aOV:∀{cs:List CB} {n:Nat},aeZ n (Xw n cs)
 | [],_=>trivial
 |_::cs,n=>⟨rfl,aOV (cs:=cs)⟩
theorem al7:∀{h h':Aa} {i n:Nat} {es:List As},Iw i h h'=some es→n=i+h.length→aeZ n es
 | [],h',i,n,es,hs,hn=>by
   simp only[Iw,aCF.injEq]at hs
   subst hs
   simp at hn;subst hn
   exact aOV
 |c₀::h,[],i,n,es,hs,_=>by simp[Iw]at hs
 |c₀::h,c::h',i,n,es,hs,hn=>by
  simp only[Iw]at hs
  simp only[List.length_cons]at hn
  cases hq:c₀.quiet c with
  |true=>rw[hq]at hs;exact al7 (h:=h) (h':=h') hs (by omega)
  |false=>
   rw[hq]at hs
   simp only[cond_false]at hs
   cases hlive:c₀.isLive with
   |false=>rw[hlive]at hs;simp at hs
   |true=>
    rw[hlive]at hs
    simp only[cond_true]at hs
    obtain⟨es',hs',rfl⟩:=acZ.1 hs
    exact⟨by omega,al7 hs' (by omega)⟩
theorem aNN{h h':Aa}{es:List As}(hu:Iw 0 h h'=some es):Gy h es:=by
 obtain⟨hlen,sp⟩:=lU hu
 refine⟨al7 hu (by omega),fun b hE hb=>?_,fun b hn=>?_⟩
 ·have h0:h[b]?=some h[b]:=acR hb
  rcases(sp (hf h) b).both b _ _ (by omega) h0 (acR (by omega:b<h'.length))with⟨_,_,q3⟩|⟨q3,q4,_⟩
  ·exact(q3 hE).elim
  ·exact⟨⟨_,h0,q3⟩,fun c hc=>by rw[q4]at hc;cases hc;exact aX6 _⟩
 ·by_cases hb:b<h.length
  ·have h0:h[b]?=some h[b]:=acR hb
   rcases(sp (hf h) b).both b _ _ (by omega) h0 (acR (by omega:b<h'.length))with⟨_,q2,_⟩|⟨_,_,q5⟩
   ·exact q2
   ·exact(hn q5).elim
  ·by_cases hb':b<h'.length
   ·exact(hn ((sp (hf h) b).new b _ (by omega) (by omega) (acR hb')).2).elim
   ·exact((sp (hf h) b).high b (by omega) (by omega)).1
end Go.Ev
