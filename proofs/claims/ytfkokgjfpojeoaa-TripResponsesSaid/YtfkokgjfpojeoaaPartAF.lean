/- The functions of the layer, walked. -/
import Derived.Test.YtfkokgjfpojeoaaPartAE
import Derived.Test.YtfkokgjfpojeoaaLibF
import Derived.Test.YtfkokgjfpojeoaaPartAC
open List renaming length_map→acL,foldl_cons→acZ,length_cons→aqD,length_set→aAM,getElem?_append_right→aAN,length_nil→aAO,any_eq_true→aCF,mem_append→aC6,mem_map→aC7,getElem?_set_self→aEO,mem_cons→aER,length_append→aE9,length_take→aG6,append_nil→aHJ,getElem?_eq_some_iff→aHM,getElem?_set_ne→aIC,all_eq_true→aJZ,getElem?_eq_none→aKM,mem_of_getElem?→aLD,mem_cons_of_mem→aLE,flatMap_cons→aLF,take_add_one→aLG,getElem?_eq_getElem→aLH,length_range→aLI
open Int renaming lt_irrefl→acR
open Bool renaming or_eq_true→aAP,and_eq_true→aID
set_option linter.unusedSimpArgs false
set_option linter.unusedVariables false
namespace Go.Proofs.Ytfkokgjfpojeoaa
open Go.Ev Go Go.Ev.Bfs
set_option maxRecDepth 100000
set_option maxHeartbeats 16000000
theorem a3H{x y:List As × List Ew}(f:Nat→Nat)(h:Xt x y=true):ae1 ([.all],[.all]) (y.1.map fun e=>mfF f e.foot,y.2.map (mfF f))=true:=by
 simp only[Xt,aAP,aCF,aC6,aC7]at h
 simp only[ae1,List.any_cons,List.any_nil,Bool.or_false,aAP,aCF,aC6,aC7]
 rcases h with⟨_,_,b,hb,_⟩|⟨_,⟨e,he,rfl⟩,b,hb,hm⟩
 ·refine .inl ⟨mfF f b,?_,by cases b<;>rfl⟩
  rcases hb with⟨e',he',rfl⟩|hb
  ·exact .inl ⟨e',he',rfl⟩
  ·exact .inr ⟨b,hb,rfl⟩
 ·exact .inr ⟨_,⟨e,he,rfl⟩,by generalize mfF f e.foot=z;cases z<;>rfl⟩
theorem a16{x y:List As × List Ew}(f:Nat→Nat)(h:Xt x y=true):ae1 (x.1.map fun e=>mfF f e.foot,x.2.map (mfF f)) ([.all],[.all])=true:=by
 simp only[Xt,aAP,aCF,aC6,aC7]at h
 simp only[ae1,List.any_cons,List.any_nil,Bool.or_false,aAP,aCF,aC6,aC7]
 rcases h with⟨_,⟨e,he,rfl⟩,_⟩|⟨_,_,b,hb,_⟩
 ·exact .inl ⟨_,⟨e,he,rfl⟩,.all,by simp,by generalize mfF f e.foot=z;cases z<;>rfl⟩
 ·exact .inr ⟨mfF f b,⟨b,hb,rfl⟩,by cases b<;>rfl⟩
theorem a52(f:Nat→Nat)(k:Nat){ops:List Oper}{log:Log}(h:aQ4 ops ((lgF f log).set k ([.all],[.all]))=true):It ops log=true:=by
 simp only[aQ4,It,aJZ]at h ⊢
 rintro⟨i,j⟩ hij
 have:=h (i,j) hij
 simp only at this ⊢
 cases hi:log[i]? with
 |none=>
  have hl:log.length≤i:=by simpa using hi
  have h2:((lgF f log).set k ([Ew.all],[Ew.all]))[i]?=none:=aKM (by simp[lgF];exact hl)
  rw[h2]at this;simp at this
 |some x=>
  cases hj:log[j]? with
  |none=>
   have hl:log.length≤j:=by simpa using hj
   have h2:((lgF f log).set k ([Ew.all],[Ew.all]))[j]?=none:=aKM (by simp[lgF];exact hl)
   rw[h2]at this
   revert this
   cases((lgF f log).set k ([Ew.all],[Ew.all]))[i]?<;>simp
  |some y=>
   have hil:i<log.length:=(aHM.1 hi).1
   have hjl:j<log.length:=(aHM.1 hj).1
   have gi:((lgF f log).set k ([Ew.all],[Ew.all]))[i]?=some (if k=i then([.all],[.all])else(x.1.map fun e=>mfF f e.foot,x.2.map (mfF f))):=by
    by_cases e:k=i
    ·rw[if_pos e,e,aEO (by simp[lgF];exact hil)]
    ·rw[if_neg e,aIC e];simp[lgF,hi]
   have gj:((lgF f log).set k ([Ew.all],[Ew.all]))[j]?=some (if k=j then([.all],[.all])else(y.1.map fun e=>mfF f e.foot,y.2.map (mfF f))):=by
    by_cases e:k=j
    ·rw[if_pos e,e,aEO (by simp[lgF];exact hjl)]
    ·rw[if_neg e,aIC e];simp[lgF,hj]
   rw[gi,gj]at this
   simp only[Bool.not_eq_true']at this ⊢
   cases hc:Xt x y with
   |false=>rfl
   |true=>
    exfalso
    by_cases e1:k=i
    ·by_cases e2:k=j
     ·rw[if_pos e1,if_pos e2]at this
      simp[ae1,Ew.meets]at this
     ·rw[if_pos e1,if_neg e2,a3H f hc]at this;cases this
    ·by_cases e2:k=j
     ·rw[if_neg e1,if_pos e2,a16 f hc]at this;cases this
     ·rw[if_neg e1,if_neg e2,aN4 f x y hc]at this;cases this
structure RB where
 sf:Nat
 kb:Nat
 eb:Nat
 sg:Nat
 vb:Nat
 fb:Nat
 mx:Nat
 mp:Nat
 si:Nat
def RB.caps(b:RB):List AV:=[.ptr b.sf 0 0,.ptr b.kb 0 0,.ptr b.eb 0 0,.ptr b.sg 0 0,.ptr b.vb 0 0,.ptr b.fb 0 0,.ptr b.mx 0 0]
def vN(s:DS (Int × Int))(g:Int × Int):AV:=.int .i64 (s.val g)
structure RsH(m:Ah)(X:List (List Int × Int))(vt:Nat)(nn:Bool)(sl:List Int)(b:RB)(s:DS (Int × Int))(h:Aa):Prop where
 h1:∃x,h[b.sf]?=some (.live 1 false x [[Ak 1 true nn (sl.map iv)]])
 h2:∃x,h[b.kb]?=some (.live 1 false x [[.mapr b.mp]])
 h3:∃x,h[b.eb]?=some (.live 1 true x [[.bool s.e]])
 h4:∃x,h[b.sg]?=some (.live 1 false x [[.slr 2 b.si 0 X.length]])
 h5:∃x,h[b.vb]?=some (.live 1 true x [[.int .i64 (vt:Int)]])
 h6:∃x,h[b.fb]?=some (.live 1 false x [[.func (.func 56) [] b.caps]])
 h7:∃x,h[b.mx]?=some (.live 7 false x [m.cells])
 h8:h[b.mp]?=some (Gk (eO kN (vN s) s.W))
 h9:∃x,h[b.si]?=some (.live 2 true x (X.map (sgC m)))
theorem RsH.sm{m:Ah}{X:List (List Int × Int)}{vt:Nat}{nn:Bool}{sl:List Int}{b:RB}{s:DS (Int × Int)}{h G:Aa}(R:RsH m X vt nn sl b s h)(k:∀c,c<h.length→Gq h G c):RsH m X vt nn sl b s G:=by
 have l:=fun {c st:Nat} {fl:Bool} {r:List (List AV)} (g:∃x,h[c]?=some (.live st fl x r))=>(k c (by obtain⟨_,g⟩:=g;exact Aw g)).live g
 exact⟨l R.h1,l R.h2,l R.h3,l R.h4,l R.h5,l R.h6,l R.h7,(k _ (Aw R.h8)).map R.h8,l R.h9⟩
theorem RsH.app{m:Ah}{X:List (List Int × Int)}{vt:Nat}{nn:Bool}{sl:List Int}{b:RB}{s:DS (Int × Int)}{h:Aa}(R:RsH m X vt nn sl b s h)(l:Aa):RsH m X vt nn sl b s (h++l):=R.sm fun c hc=>(Gq.refl h c).app hc l
theorem aSH{h:Aa}{b:Nat}{s:DS (Int × Int)}(hb:h[b]?=some (Gk (eO kN (vN s) s.W)))(hn:s.W.Nodup)(v:Int × Int)(x:Int):ms Try.prog h 103 (some (.mapr b)) (some (kN v)) (some (.int .i64 x))=some (.ret (.tup []),[.put b (Gk (eO kN (vN (s.put v x)) (s.put v x).W))]):=by
 have e:vN (s.put v x)=fun y=>if y=v then AV.int .i64 x else vN s y:=by
  funext y
  show AV.int .i64 (if y=v then x else s.val y)=_
  by_cases h:y=v<;>simp[h,vN]
 rw[e]
 by_cases hv:v∈s.W
 ·have:=aL7.ms_old (ty:=103) Try.underlying103 hb (fun _ _=>trivial) hn hv (.int .i64 x)
  rw[this]
  simp[DS.put,hv]
 ·have:=aL7.ms_new (ty:=103) Try.underlying103 hb (fun _ _=>trivial) trivial hv (.int .i64 x)
  rw[this]
  simp[DS.put,hv]
theorem aWY(W:List (Int × Int))(s:DS (Int × Int)):(Gk (eO kN (vN s) W)).quiet (Gk (eO kN (vN s) W)).clean=true:=adG _ fun a ha=>by
 unfold eO at ha
 obtain⟨w,hw,ha⟩:=List.mem_flatMap.1 ha
 simp only[aER,List.not_mem_nil,or_false]at ha
 rcases ha with rfl|rfl<;>simp[kN,vN,AV.sameKey,AV.same]
def afC(n:Int):Int:=IntKind.i64.wrap (n+1)
def Xc(m:Ah)(vt:Nat)(a:List Int × Int):Bool:=Ve (Hh m a.1) (vt:Int)
def pK(sl:List Int)(v:Int × Int):Bool:=sl.any fun x=>v.1==x
abbrev aB5(m:Ah)(X:List (List Int × Int))(vt:Nat)(sl:List Int):=dfs (pK sl) afC (Xc m vt) (stp m) X
theorem RsH.put{m:Ah}{X:List (List Int × Int)}{vt:Nat}{nn:Bool}{sl:List Int}{b:RB}{s:DS (Int × Int)}{h:Aa}(R:RsH m X vt nn sl b s h)(v:Int × Int)(x:Int):RsH m X vt nn sl b (s.put v x) (h.set b.mp (Gk (eO kN (vN (s.put v x)) (s.put v x).W))):=by
 have l:=fun {c st:Nat} {fl:Bool} {r:List (List AV)} (g:∃x,h[c]?=some (.live st fl x r))=>((Gq.refl h c).set (show b.mp≠c from fun e=>by obtain⟨_,g⟩:=g;rw[←e,R.h8]at g;cases g) (Gk (eO kN (vN (s.put v x)) (s.put v x).W))).live g
 exact⟨l R.h1,l R.h2,l R.h3,l R.h4,l R.h5,l R.h6,l R.h7,aEO (Aw R.h8),l R.h9⟩
theorem RsH.en{m:Ah}{X:List (List Int × Int)}{vt:Nat}{nn:Bool}{sl:List Int}{b:RB}{s:DS (Int × Int)}{h:Aa}(R:RsH m X vt nn sl b s h)(e':Bool):RsH m X vt nn sl b ⟨s.W,s.val,e'⟩ (h.set b.eb (.live 1 true true [[.bool e']])):=by
 obtain⟨z,h3⟩:=R.h3
 have l:=fun {c st:Nat} {fl:Bool} {r:List (List AV)} (g:∃x,h[c]?=some (.live st fl x r)) (hn:∀x,CB.live st fl x r≠.live 1 true z [[.bool s.e]])=>((Gq.refl h c).set (show b.eb≠c from fun e=>by obtain⟨x,g⟩:=g;rw[←e,h3]at g;cases g;exact hn _ rfl) (.live 1 true true [[.bool e']])).live g
 refine⟨l R.h1 (fun x e=>by cases e),l R.h2 (fun x e=>by cases e),⟨true,aEO (Aw h3)⟩,l R.h4 (fun x e=>by cases e),l R.h5 (fun x e=>by cases e),l R.h6 (fun x e=>by cases e),l R.h7 (fun x e=>by cases e),?_,l R.h9 (fun x e=>by simp at e)⟩
 rw[aIC (fun e=>by rw[e,R.h8]at h3;cases h3)];exact R.h8
structure LpI(m:Ah)(X:List (List Int × Int))(vt:Nat)(nn:Bool)(sl:List Int)(b:RB)(H:Aa)(v:Int × Int)(k:Nat)(r:Int × DS (Int × Int))(h:Aa):Prop where
 R:RsH m X vt nn sl b r.2 h
 W:DW (okN m) r.2
 l:k≤r.2.W.length
 nd:∃x,h[H.length]?=some (.live 2 true x [nvN v])
 w:Qs H h
 q:Bv h=true
 k:∀c,c<H.length→c≠b.mp→c≠b.eb→Gq H h c
theorem LpI.app{m:Ah}{X:List (List Int × Int)}{vt:Nat}{nn:Bool}{sl:List Int}{b:RB}{H:Aa}{v:Int × Int}{k:Nat}{r:Int × DS (Int × Int)}{h:Aa}(I:LpI m X vt nn sl b H v k r h){l:Aa}(hl:Bv l=true):LpI m X vt nn sl b H v k r (h++l):=by
 obtain⟨R,W,l1,⟨x,nd⟩,w,q,k⟩:=I
 exact⟨R.app l,W,l1,⟨x,Ae nd l⟩,w.app l,Dp q hl,fun c c1 c2 c3=>(k c c1 c2 c3).app (Nat.lt_of_lt_of_le c1 w.1) l⟩
theorem a93{m:Ah}(hs:m.small)(hm:Ce m=true){X:List (List Int × Int)}(hX:X.length≤2000){vt:Nat}(hvt:vt<m.votes.length){nn:Bool}{sl:List Int}(hsl:sl.length≤maxLen){b:RB}:∀(f:Nat) (v:Int × Int) (s:DS (Int × Int)) (H:Aa),okN m v→DW (okN m) s→88<s.W.length+f→Bv H=true→RsH m X vt nn sl b s H→
 ShQ Ec 56 (.agg [.int .i64 v.1,.int .i64 v.2]::b.caps) H fun o G=>((o=.ret (.int .i64 (aB5 m X vt sl f v s).1)∧RsH m X vt nn sl b (aB5 m X vt sl f v s).2 G)∧∀c,c<H.length→c≠b.mp→c≠b.eb→Gq H G c)∧Qs H G∧Bv G=true:=by
 intro f
 induction f with
 |zero=>
  intro v s H hv hw hf
  have h1:=nI hw.1 (k:=aXZ m) fun g hg=>aLL (hw.2 g hg)
  have h2:=Kv hm
  rw[aN8]at h1
  omega
 |succ f ih=>
  intro v s H hv hw hf hq R
  obtain⟨x1,h1⟩:=R.h1
  obtain⟨x2,h2⟩:=R.h2
  obtain⟨x3,h3⟩:=R.h3
  obtain⟨x4,h4⟩:=R.h4
  have h8:=R.h8
  have hct:=aES (l:=sl) (nn:=nn) v.1 hsl
  have e1:aB5 m X vt sl (f+1) v s=_:=aN3 (safe:=pK sl) afC (Xc m vt) (stp m) X f v s
  rw[e1]
  cases hsf:pK sl v with
  |true=>
   rw[if_pos rfl]
   have hsf':(sl.any fun x=>v.1==x)=true:=hsf
   rw[hsf']at hct
   refine anJ rfl Try.func56 rfl rfl ?_
   simp only[Try.f56,RB.caps]
   (have hb:=trivial;with_reducible repeat' (first|simp only[hb,Vc.down,seval,aK1.down,Yd.down,Ae h1,hct,acL]|refine Bm ?_ ?_<;>intro hb|refine fd ?_|fail))
   exact⟨⟨R.app _,fun c hc _ _=>(Gq.refl H c).app hc _⟩,(Qs.refl H).app _,Dp hq rfl⟩
  |false=>
   rw[if_neg (by simp)]
   have hsf':(sl.any fun x=>v.1==x)=false:=hsf
   rw[hsf']at hct
   by_cases hin:v∈s.W
   ·rw[if_pos hin]
    have hlk:=fun l=>aL7.lk_yes (ty:=103) (z:=.int .i64 0) Try.underlying103 (by kernel_rfl) (Ae h8 l) (fun _ _=>trivial) hin true
    simp only[cond_true,kN,vN]at hlk
    have hS:=Jj (Aw h3)
    cases he:s.e with
    |true=>
     rw[he]at h3
     refine anJ rfl Try.func56 rfl rfl ?_
     simp only[Try.f56,RB.caps]
     (have hb:=trivial;with_reducible repeat' (first|simp only[hb,Vc.down,seval,aK1.down,Yd.down,Ae h1,hct,Ae h2,Ae h3,hS,hlk,acL]|refine Bm ?_ ?_<;>intro hb|refine fd ?_|fail))
     exact⟨⟨(R.en true).app _,fun c hc _ n2=>((Gq.refl H c).set (fun e=>n2 e.symm) _).app (by simpa using hc) _⟩,((Qs.refl H).put h3 1 true _).app _,Dp (Dv hq _ rfl) rfl⟩
    |false=>
     rw[he]at h3
     refine anJ rfl Try.func56 rfl rfl ?_
     simp only[Try.f56,RB.caps]
     (have hb:=trivial;with_reducible repeat' (first|simp only[hb,Vc.down,seval,aK1.down,Yd.down,Ae h1,hct,Ae h2,Ae h3,hS,hlk,acL]|refine Bm ?_ ?_<;>intro hb|refine fd ?_|fail))
     exact⟨⟨(R.en (decide (s.val v<0))).app _,fun c hc _ n2=>((Gq.refl H c).set (fun e=>n2 e.symm) _).app (by simpa using hc) _⟩,((Qs.refl H).put h3 1 true _).app _,Dp (Dv hq _ rfl) rfl⟩
   ·rw[if_neg hin]
    have hlk:=fun l=>aL7.lk_no (ty:=103) (z:=.int .i64 0) Try.underlying103 (by kernel_rfl) (Ae h8 l) (fun _ _=>trivial) trivial hin true
    have hms:=fun l=>aSH (Ae h8 l) hw.1 v (-1)
    obtain⟨mv,hmv⟩:∃mv,eO kN (vN (s.put v (-1))) (s.put v (-1)).W=mv:=⟨_,rfl⟩
    rw[hmv]at hms
    simp only[cond_true,kN]at hlk hms
    have hS:=Jj (Aw h8)
    have ne4:b.mp≠b.sg:=fun e=>by rw[←e,h8]at h4;cases h4
    have s4:=fun c l=>Wg (b:=b.mp) c ne4 h4 l
    refine anJ rfl Try.func56 rfl rfl ?_
    simp only[Try.f56,RB.caps]
    (have hb:=trivial;with_reducible repeat' (first|simp only[hb,Vc.down,seval,aK1.down,Yd.down,Ae h1,hct,Ae h2,Ae h4,hS,s4,hlk,hms,acL]|refine Bm ?_ ?_<;>intro hb|refine fd ?_|fail))
    have hne3:b.eb≠H.length:=fun e=>by have:=Aw h3;omega
    have hmpl:=Aw h8
    have I0:LpI m X vt nn sl b H v (s.put v (-1)).W.length (0,s.put v (-1)) (H.set b.mp (Gk mv)++[.live 2 true false [nvN v]]):=by
     refine⟨?_,(hw.put hv (-1)).1,Nat.le_refl _,⟨false,by rw[aAN (by simp)];simp⟩,((Qs.refl H).map h8 mv).app _,Dp (Dv hq _ ?_) rfl,fun c c1 c2 _=>((Gq.refl H c).set (fun e=>c2 e.symm) _).app (by simpa using c1) _⟩
     ·have:=(R.put v (-1)).app [.live 2 true false [nvN v]]
      rw[hmv]at this;exact this
     ·rw[←hmv];exact aWY _ _
    have hWl:(s.put v (-1)).W.length=s.W.length+1:=by simp[DS.put,hin]
    refine Eo (Wy 65 X (fun i (r:Int × DS (Int × Int)) t h=>t 2=.ptr b.kb 0 0∧t 3=.ptr b.eb 0 0∧t 5=.ptr b.vb 0 0∧t 6=.ptr b.fb 0 0∧t 7=.ptr b.mx 0 0∧t 8=.ptr H.length 0 0∧t 12=.int .i64 r.1∧t 34=.slr 2 b.si 0 X.length∧t 35=.int .i64 X.length∧t 36=.int .i64 i∧LpI m X vt nn sl b H v (s.put v (-1)).W.length r h) (fun rest r=>rest.foldl (afJ (pK sl) afC (Xc m vt) (stp m) X f v) r) (fun r e t h=>e=.exit 0∧t 2=.ptr b.kb 0 0∧t 8=.ptr H.length 0 0∧t 12=.int .i64 r.1∧LpI m X vt nn sl b H v (s.put v (-1)).W.length r h) ?_ ?_ (0,s.put v (-1)) _ _ ?_) (fun e t h hk=>?_)
    ·rintro r t h Q' kQ ⟨c2,c3,c5,c6,c7,c8,c12,c34,c35,c36,I⟩
     (have hb:=trivial;with_reducible repeat' (first|simp only[hb,Vc.down,seval,aK1.down,Yd.down,c34,c35,c36,acR,decide_false]|refine Bm ?_ ?_<;>intro hb|refine fd ?_|fail))
     exact kQ _ _ _ ⟨rfl,by simp[up,c2],by simp[up,c8],by simp[up,c12],I⟩
    ·rintro sx rest i r t h J Q' kJ kQ hx hi ⟨c2,c3,c5,c6,c7,c8,c12,c34,c35,c36,I⟩
     obtain⟨y3,g3⟩:=I.R.h3
     obtain⟨y5,g5⟩:=I.R.h5
     obtain⟨y6,g6⟩:=I.R.h6
     obtain⟨y7,g7⟩:=I.R.h7
     obtain⟨y9,g9⟩:=I.R.h9
     obtain⟨yn,gn⟩:=I.nd
     have hd:((i:Int)<(X.length:Int))=True:=eq_true (by omega)
     have hww:=Bo hi (show X.length≤maxLen by unfold maxLen;omega)
     cases hdn:Xc m vt sx with
     |false=>
      have hbt:(aXM (aUQ (Hh m sx.1) vt)==1)=false:=by rw[←hdn];simp[Xc,Ve]
      have hG:afJ (pK sl) afC (Xc m vt) (stp m) X f v r sx=r:=by simp[afJ,hdn]
      (have hb:=trivial;with_reducible repeat' (first|simp only[hb,Vc.down,seval,aK1.down,Yd.down,c2,c3,c5,c6,c7,c8,c12,c34,c35,c36,Ae g3,Ae g5,g9,hx,sgC,hd,hww,hbt,acL]|refine Bm ?_ ?_<;>intro hb|refine fd ?_|fail))
      exact Bn (kJ _ _ r ⟨by simp[up,c2],by simp[up,c3],by simp[up,c5],by simp[up,c6],by simp[up,c7],by simp[up,c8],by simp[up,c12],by simp[up,c34],by simp[up,c35],by simp[up]<;>omega,I.app rfl⟩ (by rw[acZ,hG]))
     |true=>
      have hbt:(aXM (aUQ (Hh m sx.1) vt)==1)=true:=by rw[←hdn];simp[Xc,Ve]
      cases hre:r.2.e with
      |true=>
       rw[hre]at g3
       have hG:afJ (pK sl) afC (Xc m vt) (stp m) X f v r sx=r:=by simp[afJ,hre]
       (have hb:=trivial;with_reducible repeat' (first|simp only[hb,Vc.down,seval,aK1.down,Yd.down,c2,c3,c5,c6,c7,c8,c12,c34,c35,c36,Ae g3,Ae g5,g9,hx,sgC,hd,hww,hbt,acL]|refine Bm ?_ ?_<;>intro hb|refine fd ?_|fail))
       exact Bn (kJ _ _ r ⟨by simp[up,c2],by simp[up,c3],by simp[up,c5],by simp[up,c6],by simp[up,c7],by simp[up,c8],by simp[up,c12],by simp[up,c34],by simp[up,c35],by simp[up]<;>omega,I.app rfl⟩ (by rw[acZ,hG]))
      |false=>
       rw[hre]at g3
       have hG:afJ (pK sl) afC (Xc m vt) (stp m) X f v r sx=(max r.1 (aB5 m X vt sl f (stp m v sx) r.2).1,(aB5 m X vt sl f (stp m v sx) r.2).2):=by simp[afJ,hdn,hre]
       have hst:=aK4 m v.1 v.2 (Hh m sx.1) sx.2 hs (fun x hx w hw=>(aCE hm x hx w hw).1)
       obtain⟨v',hv'⟩:∃v',stp m v sx=v':=⟨_,rfl⟩
       have hv2:Pm v.1 v.2 (Hh m sx.1) sx.2 m.moves=v':=hv'
       rw[hv2]at hst
       obtain⟨K2,hK2⟩:∃K2,h++[CB.live 2 true true [[.int .i64 (Hh m sx.1),.int .i64 sx.2]]]=K2:=⟨_,rfl⟩
       have hcl2:Hj (h++[CB.live 2 true true [[.int .i64 (Hh m sx.1),.int .i64 sx.2]]])=Hj h++[CB.live 2 true false [[.int .i64 (Hh m sx.1),.int .i64 sx.2]]]:=by simp[Hj,CB.clean]
       have IK:LpI m X vt nn sl b H v (s.put v (-1)).W.length r K2:=by rw[←hK2];exact I.app rfl
       obtain⟨o,G,es,M,d1,d2,⟨⟨rfl,dR⟩,dk⟩,d4,d5,d6⟩:=bC (O:=Ec) (H:=K2) IK.q (ih v' r.2 (Hj K2) (hv'▸apH hm hv sx) I.W (by have:=I.l;omega) (Il IK.q) (IK.R.sm fun c _=>(Gq.refl K2 c).eqR (Ho K2).symm))
       simp only[RB.caps]at d1
       rw[←hK2,hcl2]at d1
       rw[←hK2]at d2
       have hml:=Aw g7
       have hfl:=Aw g6
       have hnl:=Aw gn
       obtain⟨sf,s1,s2,s3,sn⟩:∃sf:Nat→Nat,sf b.fb=1∧sf b.mx=1∧sf H.length=1∧sf h.length=10:=⟨fun c=>if h.length≤c then 10 else 1,by simp;omega,by simp;omega,by simp;omega,by simp⟩
       (have hb:=trivial;with_reducible repeat' (first|simp only[hb,Vc.down,seval,aK1.down,Yd.down,c2,c3,c5,c6,c7,c8,c12,c34,c35,c36,Ae g3,Ae g5,Ae g6,RB.caps,Ae g7,Ae gn,nvN,g9,hx,sgC,hd,hww,hbt,hst,d1,d2,acL]|refine Bm ?_ ?_<;>intro hb|((refine oC (a52 (sf) 6 ?_) ?_);(simp (discharger:=decide) only[oL,bW,List.map_cons,List.map_nil,Ry,oD,oV,nZ,nY,Rz,aqD,aAO,s1,s2,s3,sn];kernel_rfl);intro _)|refine fdx ?_|fail))
       have smK:∀c,c<K2.length→c≠b.mp→c≠b.eb→Gq K2 M c:=fun c k1 k2 k3=>(((Gq.refl K2 c).eqR (Ho K2).symm).trans (dk c (by rw[Ee];exact k1) k2 k3)).eqR d4.symm
       have hHK:H.length<K2.length:=by obtain⟨_,g⟩:=IK.nd;exact Aw g
       have dw:=a6S (safe:=pK sl) (P:=okN m) (inc:=afC) (dng:=Xc m vt) (stp:=stp m) (fun v a hv=>apH hm hv a) X f v' r.2 (hv'▸apH hm hv sx) I.W
       rw[hv']at hG
       refine Bn (kJ _ _ (max r.1 (aB5 m X vt sl f v' r.2).1,(aB5 m X vt sl f v' r.2).2) ⟨by simp[up,c2],by simp[up,c3],by simp[up,c5],by simp[up,c6],by simp[up,c7],by simp[up,c8],?_,by simp[up,c34],by simp[up,c35],by simp[up]<;>omega,?_⟩ (by rw[acZ,hG]))
       ·simp only[up,if_true]
        simp
        split<;>omega
       ·exact⟨dR.sm fun c _=>(Gq.refl G c).eqR d4.symm,dw.1,Nat.le_trans I.l dw.2,(smK H.length hHK (by omega) (fun e=>hne3 e.symm)).live IK.nd,IK.w.trans d5,d6,fun c k1 k2 k3=>(IK.k c k1 k2 k3).trans (smK c (by omega) k2 k3)⟩
    ·exact⟨by simp[up,Fe],by simp[up,Fe],by simp[up,Fe],by simp[up,Fe],by simp[up,Fe],by simp[up],by simp[up],by simp[up],by simp[up],by simp[up],I0⟩
    ·generalize hr:X.foldl (afJ (pK sl) afC (Xc m vt) (stp m) X f v) (0,s.put v (-1))=r at hk ⊢
     obtain⟨rfl,c2,c8,c12,I⟩:=hk
     obtain⟨y2,g2⟩:=I.R.h2
     obtain⟨yn,gn⟩:=I.nd
     have hmf:=aSH I.R.h8 I.W.1 v (afC r.1)
     have hic:IntKind.i64.wrap (r.1+1)=afC r.1:=rfl
     simp only[kN]at hmf
     (have hb:=trivial;with_reducible repeat' (first|simp only[hb,Vc.down,seval,aK1.down,Yd.down,c2,c8,c12,g2,gn,nvN,hmf,hic,acL]|refine Bm ?_ ?_<;>intro hb|refine fd ?_|fail))
     exact⟨⟨I.R.put v (afC r.1),fun c k1 k2 k3=>(I.k c k1 k2 k3).set (fun e=>k2 e.symm) _⟩,I.w.map I.R.h8 _,Dv I.q _ (aWY _ _)⟩
def aPG(m:Ah)(vote:Int)(sl:List Int):Bool:=Ce m&&Qy vote 0 (IntKind.i64.wrap (m.votes.length-1))&&Oy m.states sl none
theorem aOP{m:Ah}(hs:m.small){vote:Int}{nn:Bool}{sl:List Int}(hsl:sl.length≤maxLen)(hm:aPG m vote sl=false):Ec.call (.fn 21) [.agg [Ak 3 true m.nS (m.sens.map Db.cells),Ak 4 false m.nV (m.votes.map Au.cells),Ak 5 false m.nM (m.moves.map Bi.cells),.int .i64 m.states,.int .i64 m.cmds,.int .i64 m.bgn,Ak 1 true m.nO (m.opn.map iv)],.int .i64 vote,Ak 1 true nn (sl.map iv)] []=some (.ret (.tup [.int .i64 0,.int .i64 2]),[]):=by
 have h1:=aD1 m hs
 have h2:=aX (nn:=nn) m.states hsl
 unfold aPG at hm
 cases c1:Ce m with
 |false=>
  rw[c1]at h1
  (refine ce Try.func21 ?_;simp only[Try.f21];(have hb:=trivial;with_reducible repeat' (first|simp only[hb,Vc.down,seval,aKN.down,h1]|refine Bm ?_ ?_<;>intro hb|refine fd ?_|fail)))
 |true=>
  rw[c1]at h1 hm
  cases c2:Qy vote 0 (IntKind.i64.wrap (m.votes.length-1))with
  |false=>
   (refine ce Try.func21 ?_;simp only[Try.f21];(have hb:=trivial;with_reducible repeat' (first|simp only[hb,Vc.down,seval,aKN.down,h1,cA,c2,acL]|refine Bm ?_ ?_<;>intro hb|refine fd ?_|fail)))
  |true=>
   rw[c2]at hm
   simp only[Bool.true_and]at hm
   rw[hm]at h2
   (refine ce Try.func21 ?_;simp only[Try.f21];(have hb:=trivial;with_reducible repeat' (first|simp only[hb,Vc.down,seval,aKN.down,h1,cA,c2,h2,acL]|refine Bm ?_ ?_<;>intro hb|refine fd ?_|fail)))
abbrev az1(m:Ah)(vt:Nat)(sl:List Int):=ay6 (pK sl) afC (Xc m vt) (stp m) (Fz m) 89
def RpO:Option Int→Gw
 |some N=>.ret (.tup [.int .i64 N,.int .i64 0])
 |none=>.ret (.tup [.int .i64 0,.int .i64 5])
theorem aP2{m:Ah}(hs:m.small){vt:Nat}{nn:Bool}{sl:List Int}(hsl:sl.length≤maxLen)(hm:aPG m vt sl=true):ClQ Ec 21 [.agg m.cells,.int .i64 (vt:Int),Ak 1 true nn (sl.map iv)] [] fun o h'=>h'=[]∧∃D,Fnd m (Fz m) D∧o=RpO (az1 m vt sl (D.map (·.1)) 0 DS.none):=by
 have h1:=aD1 m hs
 have h2:=aX (nn:=nn) m.states hsl
 unfold aPG at hm
 simp only[aID]at hm
 obtain⟨⟨c1,c2⟩,c3⟩:=hm
 have hm:=c1
 rw[c1]at h1
 rw[c3]at h2
 have hvt:vt<m.votes.length:=by
  have h6:=fN hm
  have:=c2
  rw[Dz (by omega) (by omega)]at this
  simp[Qy]at this;omega
 obtain⟨lv,sb,x,rows,Ro,es1,M1,a1,a2,aL,aR,a3,a4,a5,a6,a7⟩:=a44 hs hm (H:=[.live 7 false false [m.cells],.live 1 true false [[.int .i64 (vt:Int)]],.live 1 false false [[Ak 1 true nn (sl.map iv)]]]) rfl
 rw[show Hj [CB.live 7 false false [m.cells],.live 1 true false [[.int .i64 (vt:Int)]],.live 1 false false [[Ak 1 true nn (sl.map iv)]]]=[.live 7 false false [m.cells],.live 1 true false [[.int .i64 (vt:Int)]],.live 1 false false [[Ak 1 true nn (sl.map iv)]]]from rfl]at a1
 have hq1:Bv (M1++[.live 1 false true [[.slr 2 sb 0 (Fz m).length]]])=true:=Dp a6 rfl
 obtain⟨D,ob,ox,mb,y,es2,M2,b1,b2,b3,b4,b5,_,_,_,b7,b8,b9⟩:=a5Z hs hm (X:=Fz m) (by have:=aH5 hm;omega) hq1 (Ae a3 _)
 have hcl:Hj (M1++[.live 1 false true [[.slr 2 sb 0 (Fz m).length]]])=Hj M1++[.live 1 false false [[.slr 2 sb 0 (Fz m).length]]]:=by simp[Hj,CB.clean]
 rw[hcl]at b1
 have l3:=a5.1
 simp only[aqD,aAO]at l3
 have l4:=b7.1
 simp only[aE9,aqD,aAO]at l4
 obtain⟨xm,hm0⟩:=(a7 0 (by simp)).live (st:=7) (fl:=false) (rows:=[m.cells]) ⟨false,rfl⟩
 obtain⟨xm2,hm2⟩:=(b9 0 (by simp)).live ⟨_,Ae hm0 _⟩
 obtain⟨xs,hs1⟩:=(b9 M1.length (by simp)).live (st:=1) (fl:=false) (rows:=[[.slr 2 sb 0 (Fz m).length]]) ⟨true,by simp⟩
 have R0:RsH m (Fz m) vt nn sl ⟨2,M2.length+1,M2.length+2,M1.length,1,M2.length+3,0,M2.length,sb⟩ DS.none (M2++[Gk [],.live 1 false true [[.mapr M2.length]],.live 1 true true [[.bool false]],.live 1 false true [[.func (.func 56) [] (RB.caps ⟨2,M2.length+1,M2.length+2,M1.length,1,M2.length+3,0,M2.length,sb⟩)]]]):=by
  obtain⟨z1,g1⟩:=(a7 1 (by simp)).live (st:=1) (fl:=true) (rows:=[[.int .i64 (vt:Int)]]) ⟨false,rfl⟩
  obtain⟨z2,g2⟩:=(a7 2 (by simp)).live (st:=1) (fl:=false) (rows:=[[Ak 1 true nn (sl.map iv)]]) ⟨false,rfl⟩
  obtain⟨z3,g3⟩:=(b9 1 (by simp;omega)).live ⟨_,Ae g1 _⟩
  obtain⟨z4,g4⟩:=(b9 2 (by simp;omega)).live ⟨_,Ae g2 _⟩
  obtain⟨z5,g5⟩:=(b9 sb (by have:=Aw a3;simp;omega)).live ⟨_,Ae a3 _⟩
  exact⟨⟨z4,Ae g4 _⟩,⟨true,by simp⟩,⟨true,by simp[DS.none]⟩,⟨xs,Ae hs1 _⟩,⟨z3,Ae g3 _⟩,⟨true,by simp⟩,⟨xm2,Ae hm2 _⟩,by simp[DS.none,eO],⟨z5,Ae g5 _⟩⟩
 refine aJT rfl Try.func21 rfl rfl ?_
 simp only[Try.f21]
 (have hb:=trivial;with_reducible repeat' (first|simp only[hb,Vc.down,seval,aKN.down,Yd.down,h1,cA,c2,h2,a1,a2,hm0,Ae hm0,hm2,Ae hm2,hs1,Ae hs1,b1,b2,aEN,aEM,aEC,aEB,aD8,aEF,acL]|refine Bm ?_ ?_<;>intro hb|refine fd ?_|fail))
 have h88:=Qw hm b3
 obtain⟨b,hb9⟩:∃b:RB,(⟨2,M2.length+1,M2.length+2,M1.length,1,M2.length+3,0,M2.length,sb⟩:RB)=b:=⟨_,rfl⟩
 have heb:b.eb=M2.length+2:=by rw[←hb9]
 have hfb:b.fb=M2.length+3:=by rw[←hb9]
 have hmp:b.mp=M2.length:=by rw[←hb9]
 have hobl:=Aw b4
 refine Eo (Wy 64 D (fun k (r:Int × DS (Int × Int)) t h=>t 13=.ptr b.eb 0 0∧t 14=.ptr b.fb 0 0∧t 15=.int .i64 r.1∧t 50=.slr 2 ob 0 D.length∧t 51=.int .i64 D.length∧t 52=.int .i64 k∧RsH m (Fz m) vt nn sl b r.2 h∧DW (okN m) r.2∧(∃x,h[ob]?=some (.live 2 true x (D.map fun x=>nvN x.1)))∧Bv h=true) (fun rest r=>az1 m vt sl (rest.map (·.1)) r.1 r.2) (fun r e t h=>match r with
  |some N=>e=.exit 0∧t 15=.int .i64 N
  |none=>e=.ret∧t 6=.int .i64 0∧t 7=.int .i64 5) ?_ ?_ (0,DS.none) _ _ ?_) (fun e t h hk=>?_)
 ·rintro r t h Q' kQ ⟨c13,c14,c15,c50,c51,c52,R,W,_,hqq⟩
  (have hb:=trivial;with_reducible repeat' (first|simp only[hb,Vc.down,seval,aKN.down,Yd.down,c50,c51,c52,acR,decide_false]|refine Bm ?_ ?_<;>intro hb|refine fd ?_|fail))
  exact kQ _ _ _ (by simp[ay6,up,c15])
 ·rintro z rest k r t h J Q' kJ kQ hx hk2 ⟨c13,c14,c15,c50,c51,c52,R,W,⟨xo,ho⟩,hqq⟩
  have hd2:((k:Int)<(D.length:Int))=True:=eq_true (by omega)
  have hw2:=Bo hk2 (show D.length≤maxLen by unfold maxLen;omega)
  have hz:okN m z.1:=aFI hm b3 (aLD hx)
  obtain⟨y6,g6⟩:=R.h6
  obtain⟨K2,hK2⟩:∃K2,h++[CB.live 2 true true [[.int .i64 z.1.1,.int .i64 z.1.2]]]=K2:=⟨_,rfl⟩
  have hcl2:Hj (h++[CB.live 2 true true [[.int .i64 z.1.1,.int .i64 z.1.2]]])=Hj h++[CB.live 2 true false [[.int .i64 z.1.1,.int .i64 z.1.2]]]:=by simp[Hj,CB.clean]
  have hqK:Bv K2=true:=by rw[←hK2];exact Dp hqq rfl
  have RK:RsH m (Fz m) vt nn sl b r.2 K2:=by rw[←hK2];exact R.app _
  obtain⟨o,G,es,M,d1,d2,⟨⟨rfl,dR⟩,dk⟩,d4,d5,d6⟩:=bC (O:=Ec) (H:=K2) hqK (a93 hs hm (by have:=aH5 hm;omega) hvt hsl 89 z.1 r.2 (Hj K2) hz W (by omega) (Il hqK) (RK.sm fun c _=>(Gq.refl K2 c).eqR (Ho K2).symm))
  have RM:=dR.sm fun c _=>(Gq.refl G c).eqR d4.symm
  have dw:=a6S (safe:=pK sl) (P:=okN m) (inc:=afC) (dng:=Xc m vt) (stp:=stp m) (fun v a hv=>apH hm hv a) (Fz m) 89 z.1 r.2 hz W
  have hoM:∃x,M[ob]?=some (.live 2 true x (D.map fun x=>nvN x.1)):=by
   have e1:Gq h K2 ob:=by rw[←hK2];exact(Gq.refl h ob).app (Aw ho) _
   exact(e1.trans ((((Gq.refl K2 ob).eqR (Ho K2).symm).trans (dk ob (by rw[Ee,←hK2];have:=Aw ho;simp;omega) (by omega) (by omega))).eqR d4.symm)).live ⟨_,ho⟩
  obtain⟨y3,g3⟩:=RM.h3
  have hF:az1 m vt sl ((z::rest).map (·.1)) r.1 r.2=if(aB5 m (Fz m) vt sl 89 z.1 r.2).2.e=true then none else az1 m vt sl (rest.map (·.1)) (max r.1 (aB5 m (Fz m) vt sl 89 z.1 r.2).1) (aB5 m (Fz m) vt sl 89 z.1 r.2).2:=rfl
  rw[hF]at kJ kQ
  rw[←hK2,hcl2]at d1
  rw[←hK2]at d2
  cases he:(aB5 m (Fz m) vt sl 89 z.1 r.2).2.e with
  |true=>
   rw[he]at g3
   rw[he,if_pos rfl]at kQ
   (have hb:=trivial;with_reducible repeat' (first|simp only[hb,Vc.down,seval,aKN.down,Yd.down,c13,c14,c15,c50,c51,c52,ho,hx,nvN,hd2,hw2,Ae g6,d1,d2,g3,acL]|refine Bm ?_ ?_<;>intro hb|refine fd ?_|fail))
   exact kQ _ _ _ ⟨rfl,by simp[up],by simp[up]⟩
  |false=>
   rw[he]at g3
   rw[he,if_neg (by simp)]at kJ
   (have hb:=trivial;with_reducible repeat' (first|simp only[hb,Vc.down,seval,aKN.down,Yd.down,c13,c14,c15,c50,c51,c52,ho,hx,nvN,hd2,hw2,Ae g6,d1,d2,g3,acL]|refine Bm ?_ ?_<;>intro hb|refine fd ?_|fail))
   refine Bn (kJ _ _ (max r.1 (aB5 m (Fz m) vt sl 89 z.1 r.2).1,(aB5 m (Fz m) vt sl 89 z.1 r.2).2) ⟨by simp[up,c13],by simp[up,c14],?_,by simp[up,c50],by simp[up,c51],by simp[up]<;>omega,RM,dw.1,hoM,d6⟩ rfl)
   simp only[up,if_true]
   simp
   split<;>omega
 ·exact⟨by simp[up,heb],by simp[up,hfb],by simp[up],by simp[up],by simp[up],by simp[up],by rw[←hb9];exact R0,⟨List.nodup_nil,fun _ h=>by cases h⟩,⟨ox,Ae b4 _⟩,Dp b8 rfl⟩
 ·cases hr:az1 m vt sl (D.map (·.1)) 0 DS.none with
  |none=>
   rw[hr]at hk
   obtain⟨rfl,g6,g7⟩:=hk
   (have hb:=trivial;with_reducible repeat' (first|simp only[hb,Vc.down,seval,aKN.down,Yd.down,g6,g7]|refine Bm ?_ ?_<;>intro hb|refine fd ?_|fail))
   exact⟨D,b3,by rw[hr];rfl⟩
  |some N=>
   rw[hr]at hk
   obtain⟨rfl,g15⟩:=hk
   (have hb:=trivial;with_reducible repeat' (first|simp only[hb,Vc.down,seval,aKN.down,Yd.down,g15]|refine Bm ?_ ?_<;>intro hb|refine fd ?_|fail))
   exact⟨D,b3,by rw[hr];rfl⟩
end Go.Proofs.Ytfkokgjfpojeoaa
namespace Go.Proofs.Ytfkokgjfpojeoaa
open Go.Ev Go
set_option maxRecDepth 100000
set_option maxHeartbeats 16000000
theorem ahL{α:Type}{f:α→List AV}{p:List AV→Prop}{q:α→Prop}(hf:∀r,p r→∃x,r=f x∧q x):∀{rows:List (List AV)},(∀r∈rows,p r)→∃l:List α,rows=l.map f∧∀x∈l,q x
 | [],_=>⟨[],rfl,fun x hx=>by simp at hx⟩
 |r::rows,h=>by
  obtain⟨x,rfl,hx⟩:=hf r (h r (List.mem_cons_self ..))
  obtain⟨l,rfl,hl⟩:=ahL hf (fun r hr=>h r (aLE _ hr))
  exact⟨x::l,rfl,fun y hy=>by
   rcases aER.1 hy with rfl|hy
   ·exact hx
   ·exact hl y hy⟩
def i64(n:Int):Prop:= -9223372036854775808≤n∧n≤9223372036854775807
theorem bJ{n:Nat}{r:List AV}(h:Ty Try.prog (n+1) 3 r):∃x,r=[.int .i64 x]∧i64 x:=by
 simp only[Ty,Try.underlying3]at h
 obtain⟨x,rfl,h1,h2⟩:=h
 exact⟨x,rfl,h1,h2⟩
theorem aKX{n:Nat}{r:List AV}(h:Ty Try.prog (n+1) 4 r):∃x,r=[.bool x]:=by
 simp only[Ty,Try.underlying4]at h
 exact h
theorem aKC{n:Nat}{r:List AV}(h:Ty Try.prog (n+2) 25 r):∃(nn:Bool) (l:List Int),r=[Ak 1 true nn (l.map iv)]∧l.length≤maxLen∧∀x∈l,i64 x:=by
 unfold Ty at h
 simp only[Try.underlying25]at h
 obtain⟨nn,rows,rfl,hl,hrows⟩:=h
 obtain⟨l,rfl,hi⟩:=ahL (f:=iv) (q:=i64) (fun r hr=>by obtain⟨x,rfl,hx⟩:=bJ hr;exact⟨x,rfl,hx⟩) hrows
 have e1:Try.prog.cellsOf 3=1:=by kernel_rfl
 have e2:flT Try.prog (n+1) 3=true:=by
  simp only[flT,Try.underlying3]
 rw[e1,e2]
 exact⟨nn,l,rfl,by simpa using hl,hi⟩
theorem baX{n:Nat}{r:List AV}(h:Ty Try.prog (n+2) 50 r):∃x:Db,r=x.cells∧True:=by
 unfold Ty at h
 simp only[Try.underlying50,aNW]at h
 obtain⟨a0,b0,rfl,h0,a1,b1,rfl,h1,a2,b2,rfl,h2,rfl⟩:=h
 obtain⟨x0,rfl,_⟩:=bJ h0
 obtain⟨x1,rfl,_⟩:=bJ h1
 obtain⟨x2,rfl⟩:=aKX h2
 exact⟨⟨x0,x1,x2⟩,rfl,trivial⟩
theorem a5J{n:Nat}{r:List AV}(h:Ty Try.prog (n+2) 56 r):∃x:Bf,r=x.cells∧True:=by
 unfold Ty at h
 simp only[Try.underlying56,aNW]at h
 obtain⟨a0,b0,rfl,h0,a1,b1,rfl,h1,rfl⟩:=h
 obtain⟨x0,rfl,_⟩:=bJ h0
 obtain⟨x1,rfl⟩:=aKX h1
 exact⟨⟨x0,x1⟩,rfl,trivial⟩
theorem a2D{n:Nat}{r:List AV}(h:Ty Try.prog (n+3) 48 r):∃x:Au,r=x.cells∧x.sens.length≤maxLen:=by
 unfold Ty at h
 simp only[Try.underlying48,aNW]at h
 obtain⟨a0,b0,rfl,h0,a1,b1,rfl,h1,a2,b2,rfl,h2,a3,b3,rfl,h3,rfl⟩:=h
 obtain⟨nn,l,rfl,hl,_⟩:=aKC h0
 obtain⟨x1,rfl,_⟩:=bJ h1
 obtain⟨x2,rfl,_⟩:=bJ h2
 obtain⟨x3,rfl⟩:=aKX h3
 exact⟨⟨nn,l,x1,x2,x3⟩,rfl,hl⟩
theorem a5H{n:Nat}{r:List AV}(h:Ty Try.prog (n+4) 59 r):∃x:Bi,r=x.cells∧x.wants.length≤maxLen:=by
 unfold Ty at h
 simp only[Try.underlying59,aNW]at h
 obtain⟨a0,b0,rfl,h0,a1,b1,rfl,h1,a2,b2,rfl,h2,a3,b3,rfl,h3,a4,b4,rfl,h4,rfl⟩:=h
 obtain⟨x0,rfl,_⟩:=bJ h0
 obtain⟨x1,rfl,_⟩:=bJ h1
 obtain⟨x3,rfl,_⟩:=bJ h3
 obtain⟨x4,rfl,_⟩:=bJ h4
 unfold Ty at h2
 simp only[Try.underlying57]at h2
 obtain⟨nn,rows,rfl,hl,hrows⟩:=h2
 obtain⟨l,rfl,_⟩:=ahL (fun r hr=>a5J hr) hrows
 have e1:Try.prog.cellsOf 56=2:=by kernel_rfl
 have e2:flT Try.prog (n+2) 56=true:=by
  simp only[flT,Try.underlying56,Try.underlying3,Try.underlying4];rfl
 rw[e1,e2]
 exact⟨⟨x0,x1,nn,l,x3,x4⟩,rfl,by simpa using hl⟩
theorem a5N{n:Nat}{r:List AV}(h:Ty Try.prog (n+6) 27 r):∃m:Ah,r=m.cells∧m.small:=by
 unfold Ty at h
 simp only[Try.underlying27,aNW]at h
 obtain⟨a0,b0,rfl,h0,a1,b1,rfl,h1,a2,b2,rfl,h2,a3,b3,rfl,h3,a4,b4,rfl,h4,a5,b5,rfl,h5,a6,b6,rfl,h6,rfl⟩:=h
 obtain⟨x3,rfl,_⟩:=bJ h3
 obtain⟨x4,rfl,_⟩:=bJ h4
 obtain⟨x5,rfl,_⟩:=bJ h5
 obtain⟨n6,l6,rfl,hl6,_⟩:=aKC h6
 unfold Ty at h0 h1 h2
 simp only[Try.underlying22]at h0
 simp only[Try.underlying23]at h1
 simp only[Try.underlying24]at h2
 obtain⟨n0,rows0,rfl,hl0,hrows0⟩:=h0
 obtain⟨n1,rows1,rfl,hl1,hrows1⟩:=h1
 obtain⟨n2,rows2,rfl,hl2,hrows2⟩:=h2
 obtain⟨l0,rfl,_⟩:=ahL (fun r hr=>baX hr) hrows0
 obtain⟨l1,rfl,hv⟩:=ahL (fun r hr=>a2D hr) hrows1
 obtain⟨l2,rfl,hm⟩:=ahL (fun r hr=>a5H hr) hrows2
 have e0:Try.prog.cellsOf 50=3:=by kernel_rfl
 have e1:Try.prog.cellsOf 48=4:=by kernel_rfl
 have e2:Try.prog.cellsOf 59=5:=by kernel_rfl
 have f0:flT Try.prog (n+4) 50=true:=by
  simp only[flT,Try.underlying50,Try.underlying3,Try.underlying4];rfl
 have f1:flT Try.prog (n+4) 48=false:=by
  simp only[flT,Try.underlying48,Try.underlying25];simp
 have f2:flT Try.prog (n+4) 59=false:=by
  simp only[flT,Try.underlying59,Try.underlying57];simp
 rw[e0,e1,e2,f0,f1,f2]
 exact⟨⟨n0,l0,n1,l1,n2,l2,x3,x4,x5,n6,l6⟩,rfl,⟨by simpa using hl0,by simpa using hl1,by simpa using hl2,hl6,hv,hm⟩⟩
theorem a4I{av:AV}(h:TyV Try.prog 7 27 av):∃m:Ah,av=.agg m.cells∧m.small:=by
 unfold TyV at h
 simp only[Try.underlying27]at h
 obtain⟨cs,rfl,h⟩:=h
 obtain⟨s,rfl,hs⟩:=a5N h
 exact⟨s,rfl,hs⟩
theorem baP{av:AV}(h:TyV Try.prog 7 3 av):∃x,av=.int .i64 x∧i64 x:=by
 unfold TyV at h
 simp only[Try.underlying3]at h
 obtain⟨x,hx,hi⟩:=bJ h
 simp only[List.cons.injEq,and_true]at hx
 exact⟨x,hx,hi⟩
theorem a4P{av:AV}(h:TyV Try.prog 7 25 av):∃(nn:Bool) (l:List Int),av=Ak 1 true nn (l.map iv)∧l.length≤maxLen∧∀x∈l,i64 x:=by
 unfold TyV at h
 simp only[Try.underlying25]at h
 obtain⟨nn,l,hx,hl⟩:=aKC h
 simp only[List.cons.injEq,and_true]at hx
 exact⟨nn,l,hx,hl⟩
end Go.Proofs.Ytfkokgjfpojeoaa
namespace Go.Proofs.Ytfkokgjfpojeoaa
open Go.Ev Go Go.Ev.Bfs
set_option maxRecDepth 100000
set_option maxHeartbeats 16000000
structure EnI(m:Ah)(s:Db)(A O:List Int)(a o:Nat)(h:Aa):Prop where
 h0:∃x,h[0]?=some (.live 7 false x [m.cells])
 h1:∃x,h[1]?=some (.live 3 true x [s.cells])
 ha:∃x,h[a]?=some (.live 1 true x (A.map iv))
 ho:∃x,h[o]?=some (.live 1 true x (O.map iv))
 ne:a≠o
 a2:2≤a
 o2:2≤o
theorem EnI.app{m:Ah}{s:Db}{A O:List Int}{a o:Nat}{h:Aa}(I:EnI m s A O a o h)(l:Aa):EnI m s A O a o (h++l):=by
 obtain⟨⟨x0,h0⟩,⟨x1,h1⟩,⟨x2,ha⟩,⟨x3,ho⟩,ne,a2,o2⟩:=I
 exact⟨⟨x0,Ae h0 l⟩,⟨x1,Ae h1 l⟩,⟨x2,Ae ha l⟩,⟨x3,Ae ho l⟩,ne,a2,o2⟩
theorem EnI.snocA{m:Ah}{s:Db}{A O:List Int}{a o:Nat}{h:Aa}(I:EnI m s A O a o h)(n:Int)(l:Aa){k:Nat}(hk:k=h.length+l.length):EnI m s (A++[n]) O k o (h.set a .dead++(l++[.live 1 true false (A.map iv++[[.int .i64 n]])])):=by
 obtain⟨⟨x0,h0⟩,⟨x1,h1⟩,⟨x2,ha⟩,⟨x3,ho⟩,ne,a2,o2⟩:=I
 have l3:=Aw ho
 refine⟨⟨x0,Wg _ (by omega) h0 _⟩,⟨x1,Wg _ (by omega) h1 _⟩,⟨false,?_⟩,⟨x3,Wg _ ne ho _⟩,by omega,by omega,o2⟩
 subst hk
 rw[aAN (by simp),aAN (by simp)]
 simp[iv]
theorem EnI.snocO{m:Ah}{s:Db}{A O:List Int}{a o:Nat}{h:Aa}(I:EnI m s A O a o h)(n:Int)(l:Aa){k:Nat}(hk:k=h.length+l.length):EnI m s A (O++[n]) a k (h.set o .dead++(l++[.live 1 true false (O.map iv++[[.int .i64 n]])])):=by
 obtain⟨⟨x0,h0⟩,⟨x1,h1⟩,⟨x2,ha⟩,⟨x3,ho⟩,ne,a2,o2⟩:=I
 have l3:=Aw ha
 refine⟨⟨x0,Wg _ (by omega) h0 _⟩,⟨x1,Wg _ (by omega) h1 _⟩,⟨x2,Wg _ (fun e=>ne e.symm) ha _⟩,⟨false,?_⟩,by omega,a2,by omega⟩
 subst hk
 rw[aAN (by simp),aAN (by simp)]
 simp[iv]
def lJ(s:Db)(v:Au):List Int:=if s.lo<(if v.above=true then v.level else v.level+1)∧(if v.above=true then v.level else v.level+1)≤s.hi then [if v.above=true then v.level else v.level+1]else []
def aG7(n:Int)(O:List Int)(a:Int):List Int:=if a=n∧O.getLast?≠some n then O++[n]else O
theorem aH1(n:Int):∀(L O:List Int),O.getLast?≠some n→L.foldl (aG7 n) O=if n∈L then O++[n]else O
 | [],O,_=>by simp
 |a::L,O,h=>by
  rw[acZ]
  by_cases e:a=n
  ·subst e
   have e1:aG7 a O a=O++[a]:=if_pos ⟨rfl,h⟩
   rw[e1,if_pos (by simp)]
   have key:∀L:List Int,L.foldl (aG7 a) (O++[a])=O++[a]:=by
    intro L
    induction L with
    |nil=>rfl
    |cons b L ih=>
     rw[acZ]
     have:aG7 a (O++[a]) b=O++[a]:=if_neg (by simp)
     rw[this,ih]
   exact key L
  ·have e1:aG7 n O a=O:=if_neg (fun h=>e h.1)
   rw[e1,aH1 n L O h]
   have:n∈a::L↔n∈L:=⟨fun h=>(aER.1 h).resolve_left fun h=>e h.symm,fun h=>aLE _ h⟩
   by_cases hm:n∈L
   ·rw[if_pos hm,if_pos (this.2 hm)]
   ·rw[if_neg hm,if_neg (fun h=>hm (this.1 h))]
theorem aX7{m:Ah}(hs:m.small)(hm:Ce m=true){k:Nat}(hk:k<m.sens.length):∃nn,RdV Ec 77 [.agg m.cells,.int .i64 (k:Int)] (Ak 1 true nn ((Nz m k).map iv)) 2:=by
 have key:ClQ Ec 77 [.agg m.cells,.int .i64 (k:Int)] [] fun o h'=>∃v nn R,o=.ret v∧rd 6 (hf h') v=some (Ak 1 true nn ((Nz m k).map iv),R)∧R.length≤2∧∀c∈h',Rnm c:=by
  obtain⟨q1,q2,q3⟩:=aqP hm (aJY hk)
  have hgk:=sY (m:=m) (k:=(k:Int)) (by simpa using hk)
  simp only[Int.toNat_natCast]at hgk
  have hv6:=fN hm
  have hkl:((k:Int)<(m.sens.length:Int))=True:=eq_true (by omega)
  have hE:Nz m k= -10000::if(Rb m k).byp=true then []else(upN 20000 (-9999)).filter fun n=>decide (n∈aTC m k):=rfl
  have hA:aTC m k=[(Rb m k).lo,(Rb m k).hi+1]++m.votes.flatMap (lJ (Rb m k)):=rfl
  rw[hE,hA]
  generalize Rb m k=s at *
  have hw1:IntKind.i64.wrap (s.hi+1)=s.hi+1:=Dz (by omega) (by omega)
  cases hby:s.byp with
  |true=>
   refine aJT rfl Try.func77 rfl rfl ?_
   simp only[Try.f77]
   refine Jb (fun K iN hK=>?_)
   (have hb:=trivial;with_reducible repeat' (first|simp only[hb,Vc.down,seval,yJ.down,hgk,hkl,hby,Db.cells,acL]|refine Bm ?_ ?_<;>intro hb|refine fd ?_|fail))
   obtain⟨nn,R,hR⟩:=aRC (n:=1) (rows:=[-10000].map iv) (v:=.slr 1 2 0 1) (H:=[.live 7 false false [m.cells],.live 3 true true [[.int .i64 s.lo,.int .i64 s.hi,.bool true]],.live 1 true false [[.int .i64 (-10000)]]]) (jV.blk (b:=2) (w:=false) rfl rfl rfl)
   refine hK _ ?_
   rw[aFF]
   refine aK8 (vs:=[.slr 1 2 0 1]) (by simp only[Vc.down,seval,yJ.down]) (aGW (hR 5).1 (by have:=(hR 5).2;omega) fun v h' R' k1 k2 k3=>⟨v,nn,R',rfl,k1,by have:=(hR 5).2;omega,k3⟩)
  |false=>
   refine aJT rfl Try.func77 rfl rfl ?_
   simp only[Try.f77]
   refine Jb (fun K iN hK=>?_)
   (have hb:=trivial;with_reducible repeat' (first|simp only[hb,Vc.down,seval,yJ.down,hgk,hkl,hby,hw1,Db.cells,acL]|refine Bm ?_ ?_<;>intro hb|refine fd ?_|fail))
   have I0:EnI m s [s.lo,s.hi+1] [-10000] 4 2 [.live 7 false false [m.cells],.live 3 true true [[.int .i64 s.lo,.int .i64 s.hi,.bool false]],.live 1 true false [[.int .i64 (-10000)]],.live 1 true false [[.int .i64 s.lo],[.int .i64 (s.hi+1)]],.live 1 true false [[.int .i64 s.lo],[.int .i64 (s.hi+1)]]]:=⟨⟨false,rfl⟩,⟨true,by simp[Db.cells,hby]⟩,⟨false,rfl⟩,⟨false,rfl⟩,by omega,by omega,by omega⟩
   have hfl:∀v,(lJ s v).length≤1:=fun v=>by
    have:∀(p:Prop) [Decidable p] (n:Int),(if p then [n]else []).length≤1:=fun p _ n=>by split<;>simp
    exact this _ _
   have hfm:∀l:List Au,(l.flatMap (lJ s)).length≤l.length:=fun l=>by
    induction l with
    |nil=>simp
    |cons v l ih=>rw[aLF,aE9,aqD];have:=hfl v;omega
   refine Eo (Wy 94 m.votes (fun i (_:Unit) t h=>∃a,t 2=.ptr 0 0 0∧t 5=.ptr 1 0 0∧t 6=.slr 1 2 0 1∧t 7=.slr 1 a 0 ([s.lo,s.hi+1]++(m.votes.take i).flatMap (lJ s)).length∧t 8=.int .i64 i∧EnI m s ([s.lo,s.hi+1]++(m.votes.take i).flatMap (lJ s)) [-10000] a 2 h) (fun _ _=>()) (fun _ e t h=>e=.exit 0∧∃a,t 6=.slr 1 2 0 1∧t 7=.slr 1 a 0 ([s.lo,s.hi+1]++m.votes.flatMap (lJ s)).length∧EnI m s ([s.lo,s.hi+1]++m.votes.flatMap (lJ s)) [-10000] a 2 h) ?_ ?_ () _ _ ?_) (fun e t h hk=>?_)
   ·rintro _ t h Q' kQ ⟨a,c2,c5,c6,c7,c8,I⟩
    obtain⟨x0,h0⟩:=I.h0
    rw[List.take_length]at c7 I
    (have hb:=trivial;with_reducible repeat' (first|simp only[hb,Vc.down,seval,yJ.down,c2,c8,h0,acR,decide_false,acL]|refine Bm ?_ ?_<;>intro hb|refine fd ?_|fail))
    exact kQ _ _ _ ⟨rfl,a,by simp[up,c6],by simp[up,c7],I⟩
   ·rintro v rest i _ t h J Q' kJ kQ hx hi ⟨a,c2,c5,c6,c7,c8,I⟩
    obtain⟨x0,h0⟩:=I.h0
    obtain⟨x1,h1⟩:=I.h1
    obtain⟨x2,ha⟩:=I.ha
    obtain⟨lv1,lv2⟩:=aN6 hm (aLD hx)
    have hd:((i:Int)<(m.votes.length:Int))=True:=eq_true (by omega)
    have hw:=Bo hi hs.votes
    have hw2:IntKind.i64.wrap (v.level+1)=v.level+1:=Dz (by omega) (by omega)
    have htk:(m.votes.take (i+1)).flatMap (lJ s)=(m.votes.take i).flatMap (lJ s)++lJ s v:=by rw[aLG,hx,List.flatMap_append];simp
    generalize hAA:[s.lo,s.hi+1]++(m.votes.take i).flatMap (lJ s)=AA at c7 I ha
    have htk2:[s.lo,s.hi+1]++(m.votes.take (i+1)).flatMap (lJ s)=AA++lJ s v:=by rw[htk,←hAA,List.append_assoc]
    have hAl:AA.length≤20:=by
     rw[←hAA]
     have:=hfm (m.votes.take i)
     have:(m.votes.take i).length≤6:=by rw[aG6];omega
     rw[aE9];simp only[aqD,aAO];omega
    have hB:=Ae ha
    have hSb:=Jj (Aw ha)
    have h39:(AA.length+1≤549755813888)=True:=eq_true (by omega)
    cases hab:v.above with
    |true=>
     have hnn:(if v.above=true then v.level else v.level+1)=v.level:=by rw[hab];rfl
     have hV0:lJ s v=if s.lo<v.level∧v.level≤s.hi then [v.level]else []:=by unfold lJ;rw[hnn]
     by_cases g1:s.lo<v.level
     ·by_cases g2:v.level≤s.hi
      ·have hV:lJ s v=[v.level]:=by rw[hV0,if_pos ⟨g1,g2⟩]
       have g1:=eq_true g1
       have g2:=eq_true g2
       (have hb:=trivial;with_reducible repeat' (first|simp only[hb,Vc.down,seval,yJ.down,c2,c5,c6,c7,c8,h0,Ae h0,h1,Ae h1,hab,hd,hx,hw,hw2,g1,g2,hB,hSb,h39,Db.cells,Au.cells,hby,Oa,Gl,aAM,acL]|refine Bm ?_ ?_<;>intro hb|refine fd ?_|fail))
       exact Bn (kJ _ _ () ⟨h.length+2,by simp[up,c2],by simp[up,c5],by simp[up,c6],by rw[htk2,hV];simp[up],by simp[up]<;>omega,by rw[htk2,hV];exact I.snocA (k:=h.length+2) (v.level) [.live 4 false true [[Ak 1 true v.nn (v.sens.map iv),.int .i64 v.need,.int .i64 v.level,.bool true]],.live 1 true false [[.int .i64 (v.level)]]] (by simp)⟩ rfl)
      ·have hV:lJ s v=[]:=by rw[hV0,if_neg (fun h=>g2 h.2)]
       have g1:=eq_true g1
       have g2:=eq_false g2
       (have hb:=trivial;with_reducible repeat' (first|simp only[hb,Vc.down,seval,yJ.down,c2,c5,c6,c7,c8,h0,Ae h0,h1,Ae h1,hab,hd,hx,hw,hw2,g1,g2,hB,hSb,h39,Db.cells,Au.cells,hby,Oa,Gl,aAM,acL]|refine Bm ?_ ?_<;>intro hb|refine fd ?_|fail))
       exact Bn (kJ _ _ () ⟨a,by simp[up,c2],by simp[up,c5],by simp[up,c6],by simp[up,c7,htk2,hV],by simp[up]<;>omega,by rw[htk2,hV,aHJ];exact I.app _⟩ rfl)
     ·have hV:lJ s v=[]:=by rw[hV0,if_neg (fun h=>g1 h.1)]
      have g1:=eq_false g1
      have g2:=True.intro
      (have hb:=trivial;with_reducible repeat' (first|simp only[hb,Vc.down,seval,yJ.down,c2,c5,c6,c7,c8,h0,Ae h0,h1,Ae h1,hab,hd,hx,hw,hw2,g1,g2,hB,hSb,h39,Db.cells,Au.cells,hby,Oa,Gl,aAM,acL]|refine Bm ?_ ?_<;>intro hb|refine fd ?_|fail))
      exact Bn (kJ _ _ () ⟨a,by simp[up,c2],by simp[up,c5],by simp[up,c6],by simp[up,c7,htk2,hV],by simp[up]<;>omega,by rw[htk2,hV,aHJ];exact I.app _⟩ rfl)
    |false=>
     have hnn:(if v.above=true then v.level else v.level+1)=v.level+1:=by rw[hab];rfl
     have hV0:lJ s v=if s.lo<v.level+1∧v.level+1≤s.hi then [v.level+1]else []:=by unfold lJ;rw[hnn]
     by_cases g1:s.lo<v.level+1
     ·by_cases g2:v.level+1≤s.hi
      ·have hV:lJ s v=[v.level+1]:=by rw[hV0,if_pos ⟨g1,g2⟩]
       have g1:=eq_true g1
       have g2:=eq_true g2
       (have hb:=trivial;with_reducible repeat' (first|simp only[hb,Vc.down,seval,yJ.down,c2,c5,c6,c7,c8,h0,Ae h0,h1,Ae h1,hab,hd,hx,hw,hw2,g1,g2,hB,hSb,h39,Db.cells,Au.cells,hby,Oa,Gl,aAM,acL]|refine Bm ?_ ?_<;>intro hb|refine fd ?_|fail))
       exact Bn (kJ _ _ () ⟨h.length+2,by simp[up,c2],by simp[up,c5],by simp[up,c6],by rw[htk2,hV];simp[up],by simp[up]<;>omega,by rw[htk2,hV];exact I.snocA (k:=h.length+2) (v.level+1) [.live 4 false true [[Ak 1 true v.nn (v.sens.map iv),.int .i64 v.need,.int .i64 v.level,.bool false]],.live 1 true false [[.int .i64 (v.level+1)]]] (by simp)⟩ rfl)
      ·have hV:lJ s v=[]:=by rw[hV0,if_neg (fun h=>g2 h.2)]
       have g1:=eq_true g1
       have g2:=eq_false g2
       (have hb:=trivial;with_reducible repeat' (first|simp only[hb,Vc.down,seval,yJ.down,c2,c5,c6,c7,c8,h0,Ae h0,h1,Ae h1,hab,hd,hx,hw,hw2,g1,g2,hB,hSb,h39,Db.cells,Au.cells,hby,Oa,Gl,aAM,acL]|refine Bm ?_ ?_<;>intro hb|refine fd ?_|fail))
       exact Bn (kJ _ _ () ⟨a,by simp[up,c2],by simp[up,c5],by simp[up,c6],by simp[up,c7,htk2,hV],by simp[up]<;>omega,by rw[htk2,hV,aHJ];exact I.app _⟩ rfl)
     ·have hV:lJ s v=[]:=by rw[hV0,if_neg (fun h=>g1 h.1)]
      have g1:=eq_false g1
      have g2:=True.intro
      (have hb:=trivial;with_reducible repeat' (first|simp only[hb,Vc.down,seval,yJ.down,c2,c5,c6,c7,c8,h0,Ae h0,h1,Ae h1,hab,hd,hx,hw,hw2,g1,g2,hB,hSb,h39,Db.cells,Au.cells,hby,Oa,Gl,aAM,acL]|refine Bm ?_ ?_<;>intro hb|refine fd ?_|fail))
      exact Bn (kJ _ _ () ⟨a,by simp[up,c2],by simp[up,c5],by simp[up,c6],by simp[up,c7,htk2,hV],by simp[up]<;>omega,by rw[htk2,hV,aHJ];exact I.app _⟩ rfl)
   ·exact⟨4,by simp[up,Fe],by simp[up],by simp[up],by simp[up],by simp[up],by simpa using I0⟩
   ·obtain⟨rfl,a,c6,c7,I⟩:=hk
    (have hb:=trivial;with_reducible repeat' (first|simp only[hb,Vc.down,seval,yJ.down]|refine Bm ?_ ?_<;>intro hb|refine fd ?_|fail))
    generalize hAA:[s.lo,s.hi+1]++m.votes.flatMap (lJ s)=AA at c7 I ⊢
    have hAl:AA.length≤20:=by
     rw[←hAA]
     have:=hfm m.votes
     rw[aE9];simp only[aqD,aAO];omega
    have hlast0:∀i,∀z∈(-10000::((upN 20000 (-9999)).take i).filter fun n=>decide (n∈AA)),z < -9999+(i:Int):=fun i z hz=>by
     rcases aER.1 hz with rfl|hz
     ·omega
     ·obtain⟨j,hj⟩:=List.getElem?_of_mem (List.mem_filter.1 hz).1
      have hjl:=(aHM.1 hj).1
      rw[List.getElem?_take_of_lt (by rw[aG6]at hjl;omega)]at hj
      have:=aKE _ _ _ _ hj
      rw[aG6]at hjl
      omega
    refine Eo (Wy 94 (upN 20000 (-9999)) (fun i (_:Unit) t h=>∃O o,O=(-10000::((upN 20000 (-9999)).take i).filter fun n=>decide (n∈AA))∧t 6=.slr 1 o 0 O.length∧t 7=.slr 1 a 0 AA.length∧t 11=.int .i64 (-9999+(i:Int))∧EnI m s AA O a o h) (fun _ _=>()) (fun _ e t h=>e=.exit 2∧∃o,t 6=.slr 1 o 0 (-10000::(upN 20000 (-9999)).filter fun n=>decide (n∈AA)).length∧EnI m s AA (-10000::(upN 20000 (-9999)).filter fun n=>decide (n∈AA)) a o h) ?_ ?_ () _ _ ?_) (fun e t h hk=>?_)
    ·rintro _ t h Q' kQ ⟨O,o,hO,c6,c7,c11,I⟩
     rw[ahQ]at c11
     rw[List.take_of_length_le (by rw[ahQ];omega)]at hO
     subst hO
     have hd:((-9999+((20000:Nat):Int))≤10000)=False:=eq_false (by omega)
     (have hb:=trivial;with_reducible repeat' (first|simp only[hb,Vc.down,seval,yJ.down,c11,hd]|refine Bm ?_ ?_<;>intro hb|refine fd ?_|fail))
     exact kQ _ _ _ ⟨rfl,o,by simp[up,c6],I⟩
    ·rintro n rest i _ t h J Q' kJ kQ hx hi ⟨O,o,hO,c6,c7,c11,I⟩
     rw[ahQ]at hi
     obtain⟨hn,_⟩:=aKE _ _ _ _ hx
     rw[←hn]at c11
     have hd:(n≤10000)=True:=eq_true (by omega)
     have hw:IntKind.i64.wrap (n+1)= -9999+((i+1:Nat):Int):=by rw[Dz (by omega) (by omega)];omega
     have hOl:O.length≤20001:=by
      rw[hO,aqD]
      have:=List.length_filter_le (fun n=>decide (n∈AA)) ((upN 20000 (-9999)).take i)
      rw[aG6,ahQ]at this
      omega
     have hgl:O.getLast?≠some n:=fun e=>by
      have:=hlast0 i n (by rw[←hO];exact List.mem_of_getLast? e)
      omega
     have hnext:AA.foldl (aG7 n) O=(-10000::((upN 20000 (-9999)).take (i+1)).filter fun n=>decide (n∈AA)):=by
      rw[aH1 n AA O hgl,aLG,hx,List.filter_append,hO]
      by_cases hm:n∈AA
      ·rw[if_pos hm];simp[hm]
      ·rw[if_neg hm];simp[hm]
     (have hb:=trivial;with_reducible repeat' (first|simp only[hb,Vc.down,seval,yJ.down,c7,c11,hd]|refine Bm ?_ ?_<;>intro hb|refine fd ?_|fail))
     refine Eo (Wy 94 AA (fun j (O:List Int) t h=>∃o,1≤O.length∧O.length≤20001+j∧t 6=.slr 1 o 0 O.length∧t 7=.slr 1 a 0 AA.length∧t 11=.int .i64 n∧t 12=.int .i64 j∧EnI m s AA O a o h) (fun rest O=>rest.foldl (aG7 n) O) (fun O e t h=>e=.exit 4∧∃o,t 6=.slr 1 o 0 O.length∧t 7=.slr 1 a 0 AA.length∧t 11=.int .i64 n∧EnI m s AA O a o h) ?_ ?_ O _ _ ?_) (fun e t h' hk=>?_)
     ·rintro O t h Q2 kQ2 ⟨o,l1,l2,d6,d7,d11,d12,I⟩
      (have hb:=trivial;with_reducible repeat' (first|simp only[hb,Vc.down,seval,yJ.down,d7,d12,acR,decide_false]|refine Bm ?_ ?_<;>intro hb|refine fd ?_|fail))
      exact kQ2 _ _ _ ⟨rfl,o,by simp[up,d6],by simp[up,d7],by simp[up,d11],I⟩
     ·rintro z rest j O t h J2 Q2 kJ2 kQ2 hx2 hj ⟨o,l1,l2,d6,d7,d11,d12,I⟩
      obtain⟨x2,ha⟩:=I.ha
      obtain⟨x3,ho⟩:=I.ho
      have hdj:((j:Int)<(AA.length:Int))=True:=eq_true (by omega)
      have hwj:=Bo hj (show AA.length≤maxLen by unfold maxLen;omega)
      cases hz:(z==n)with
      |false=>
       have hG:aG7 n O z=O:=if_neg fun h=>by rw[h.1]at hz;simp at hz
       (have hb:=trivial;with_reducible repeat' (first|simp only[hb,Vc.down,seval,yJ.down,d6,d7,d11,d12,ha,hx2,iv,hdj,hwj,hz,acL]|refine Bm ?_ ?_<;>intro hb|refine fd ?_|fail))
       exact Bn (kJ2 _ _ O ⟨o,l1,by omega,by simp[up,d6],by simp[up,d7],by simp[up,d11],by simp[up]<;>omega,I⟩ (by rw[acZ,hG]))
      |true=>
       obtain⟨y,hy⟩:∃y,O[O.length-1]?=some y:=⟨_,aLH (by omega)⟩
       have hyl:O.getLast?=some y:=by rw[List.getLast?_eq_getElem?];exact hy
       have hw1:IntKind.i64.wrap ((O.length:Int)-1)=((O.length-1:Nat):Int):=by rw[Dz (by omega) (by omega)];omega
       have hlo:(((O.length-1:Nat):Int)<(O.length:Int))=True:=eq_true (by omega)
       have hzn:z=n:=by simpa using hz
       cases hyn:(y==n)with
       |true=>
        have hG:aG7 n O z=O:=if_neg fun h=>h.2 (by rw[hyl];congr 1;simpa using hyn)
        (have hb:=trivial;with_reducible repeat' (first|simp only[hb,Vc.down,seval,yJ.down,d6,d7,d11,d12,ha,ho,hx2,iv,hdj,hwj,hz,hy,hyn,hw1,hlo,acL]|refine Bm ?_ ?_<;>intro hb|refine fd ?_|fail))
        exact Bn (kJ2 _ _ O ⟨o,l1,by omega,by simp[up,d6],by simp[up,d7],by simp[up,d11],by simp[up]<;>omega,I⟩ (by rw[acZ,hG]))
       |false=>
        have hG:aG7 n O z=O++[n]:=if_pos ⟨hzn,fun h=>by rw[hyl]at h;cases h;simp at hyn⟩
        have hB:=Ae ho
        have hSb:=Jj (Aw ho)
        have h39:(O.length+1≤549755813888)=True:=eq_true (by omega)
        (have hb:=trivial;with_reducible repeat' (first|simp only[hb,Vc.down,seval,yJ.down,d6,d7,d11,d12,ha,ho,hx2,iv,hdj,hwj,hz,hy,hyn,hw1,hlo,hB,hSb,h39,Oa,Gl,aAM,acL]|refine Bm ?_ ?_<;>intro hb|refine fd ?_|fail))
        exact Bn (kJ2 _ _ (O++[n]) ⟨h.length+1,by simp,by simp;omega,by simp[up],by simp[up,d7],by simp[up,d11],by simp[up]<;>omega,I.snocO (k:=h.length+1) n [.live 1 true false [[.int .i64 n]]] (by simp)⟩ (by rw[acZ,hG]))
     ·exact⟨o,by rw[hO];simp,by omega,by simp[up,c6],by simp[up,c7],by simp[up,c11],by simp[up],I⟩
     ·rw[hnext]at hk
      obtain⟨rfl,o',d6,d7,d11,I2⟩:=hk
      (have hb:=trivial;with_reducible repeat' (first|simp only[hb,Vc.down,seval,yJ.down,d11,hw]|refine Bm ?_ ?_<;>intro hb|refine fd ?_|fail))
      exact Bn (kJ _ _ () ⟨(-10000::((upN 20000 (-9999)).take (i+1)).filter fun n=>decide (n∈AA)),o',rfl,by simp only[up,d6];simp,by simp[up,d7],by simp[up]<;>omega,I2⟩ rfl)
    ·exact⟨[-10000],2,by simp,by simp[up,c6],by simp[up,c7],by simp[up],I⟩
    ·obtain⟨rfl,o,c6,I⟩:=hk
     subst hAA
     obtain⟨x3,ho⟩:=I.ho
     generalize hnl:List.length _=nl at c6
     obtain⟨nn,R,hR⟩:=aRC (jV.blk (k:=0) (n:=nl) ho rfl (by rw[acL];exact hnl.symm))
     (have hb:=trivial;with_reducible repeat' (first|simp only[hb,Vc.down,seval,yJ.down,c6]|refine Bm ?_ ?_<;>intro hb|refine fd ?_|fail))
     refine hK _ ?_
     rw[aFF]
     refine aK8 (vs:=[.slr 1 o 0 nl]) (by simp only[Vc.down,seval,yJ.down,c6]) (aGW (hR 5).1 (by have:=(hR 5).2;omega) fun v h' R' k1 k2 k3=>⟨v,nn,R',rfl,k1,by have:=(hR 5).2;omega,k3⟩)
 obtain⟨o,h',e,v,nn,R,rfl,k1,k2,k3⟩:=key
 exact⟨nn,v,h',R,e,k1,k2,k3⟩
theorem known_ok:Ec.call (.fn 13) [] []=some (.ret (.bool true),[]):=aSM (pr:=pr) (p:=aK5) rfl rfl
theorem bcU{l:List Int}{nn:Bool}(n:Int)(hl:l.length≤maxLen):Ec.call (.fn 36) [Ak 1 true nn (l.map iv),.int .i64 n] []=some (.ret (.bool (l.any fun x=>x==n)),[]):=by
 (refine ce Try.func36 ?_;simp only[Try.f36];(have hb:=trivial;with_reducible repeat' (first|simp only[hb,Vc.down,seval,aVQ.down,acL]|refine Bm ?_ ?_<;>intro hb|refine fd ?_|fail)))
 refine Eo (Wy 18 l (fun i (_:Unit) t h=>t 0=Ak 1 true nn (l.map iv)∧t 1=.int .i64 n∧t 5=.int .i64 i∧h=[]) (fun rest _=>rest.any fun x=>x==n) (fun r e t h=>h=[]∧if r=true then e=.ret∧t 4=.bool true else e=.exit 0) ?_ ?_ () _ _ ?_) (fun e t h hk=>?_)
 ·rintro _ t h Q' kQ ⟨c0,c1,c5,rfl⟩
  (have hb:=trivial;with_reducible repeat' (first|simp only[hb,Vc.down,seval,aVQ.down,c0,c1,c5,acL,acR,decide_false]|refine Bm ?_ ?_<;>intro hb|refine fd ?_|fail))
  exact kQ _ _ _ ⟨rfl,by simp⟩
 ·rintro z rest i _ t h J Q' kJ kQ hx hi ⟨c0,c1,c5,rfl⟩
  have hd:((i:Int)<(l.length:Int))=True:=eq_true (by omega)
  have hw:=Bo hi hl
  cases hz:(z==n)with
  |true=>
   (have hb:=trivial;with_reducible repeat' (first|simp only[hb,Vc.down,seval,aVQ.down,c0,c1,c5,hd,hx,hw,iv,hz,acL]|refine Bm ?_ ?_<;>intro hb|refine fd ?_|fail))
   exact kQ _ _ _ ⟨rfl,by simp[hz,up]⟩
  |false=>
   (have hb:=trivial;with_reducible repeat' (first|simp only[hb,Vc.down,seval,aVQ.down,c0,c1,c5,hd,hx,hw,iv,hz,acL]|refine Bm ?_ ?_<;>intro hb|refine fd ?_|fail))
   exact Bn (kJ _ _ () ⟨by simp[up,c0],by simp[up,c1],by simp[up]<;>omega,rfl⟩ (by simp[hz]))
 ·exact⟨by simp[up,Fe],by simp[up,Fe],by simp[up],rfl⟩
 ·obtain⟨rfl,hk⟩:=hk
  split at hk
  ·rename_i hr
   obtain⟨rfl,c4⟩:=hk
   (have hb:=trivial;with_reducible repeat' (first|simp only[hb,Vc.down,seval,aVQ.down,c4]|refine Bm ?_ ?_<;>intro hb|refine fd ?_|fail))
   all_goals simp[hr]
  ·rename_i hr
   subst hk
   (have hb:=trivial;with_reducible repeat' (first|simp only[hb,Vc.down,seval,aVQ.down]|refine Bm ?_ ?_<;>intro hb|refine fd ?_|fail))
   all_goals simp[hr]
theorem a82{m:Ah}{l:List Int}{nn:Bool}(hl:l.length≤maxLen):Ec.call (.fn 22) [.agg [Ak 3 true m.nS (m.sens.map Db.cells),Ak 4 false m.nV (m.votes.map Au.cells),Ak 5 false m.nM (m.moves.map Bi.cells),.int .i64 m.states,.int .i64 m.cmds,.int .i64 m.bgn,Ak 1 true m.nO (m.opn.map iv)],Ak 1 true nn (l.map iv)] []=some (.ret (.bool (Oy m.states l none)),[]):=by
 (refine ce Try.func22 ?_;simp only[Try.f22];(have hb:=trivial;with_reducible repeat' (first|simp only[hb,Vc.down,seval,aVV.down,acL]|refine Bm ?_ ?_<;>intro hb|refine fd ?_|fail)))
 refine Eo (Wy 37 l (fun i (s:Option Int) t h=>(i=0∧s=none∨0<i∧s=l[i-1]?)∧h=[.live 7 false false [[Ak 3 true m.nS (m.sens.map Db.cells),Ak 4 false m.nV (m.votes.map Au.cells),Ak 5 false m.nM (m.moves.map Bi.cells),.int .i64 m.states,.int .i64 m.cmds,.int .i64 m.bgn,Ak 1 true m.nO (m.opn.map iv)]]]∧t 1=Ak 1 true nn (l.map iv)∧t 2=.ptr 0 0 0∧t 5=.int .i64 i)
  (fun rest s=>Oy m.states rest s) (fun r e t h=>if r=true then e=.exit 0 else e=.ret∧t 4=.bool false) ?_ ?_ none _ _ ?_) (fun e t h hk=>?_)
 ·rintro s t h Q' kQ ⟨hs,rfl,h1,h2,h5⟩
  (have hb:=trivial;with_reducible repeat' (first|simp only[hb,Vc.down,seval,aVV.down,h1,h2,h5,acL,acR,decide_false]|refine Bm ?_ ?_<;>intro hb|refine fd ?_|fail))
  exact kQ _ _ _ (by simp[Oy])
 ·rintro x rest i s t h J Q' kJ kQ hx hi ⟨hs,rfl,h1,h2,h5⟩
  have hd:decide ((i:Int)<(l.length:Int))=true:=by simpa using hi
  have kF:∀{p:Option Int},(Qy x 0 (IntKind.i64.wrap (m.states-1))&&(match p with|none=>true|some q=> !decide (x≤q)))=false→Oy m.states (x::rest) p=false:=fun {p} h=>by
   cases p with
   |none=>show(Qy x 0 (IntKind.i64.wrap (m.states-1))&&true&&Oy m.states rest (some x))=false;rw[show(Qy x 0 (IntKind.i64.wrap (m.states-1))&&true)=false from h];rfl
   |some q=>show(Qy x 0 (IntKind.i64.wrap (m.states-1))&& !decide (x≤q)&&Oy m.states rest (some x))=false;rw[show(Qy x 0 (IntKind.i64.wrap (m.states-1))&& !decide (x≤q))=false from h];rfl
  have kT:∀{p:Option Int},(Qy x 0 (IntKind.i64.wrap (m.states-1))&&(match p with|none=>true|some q=> !decide (x≤q)))=true→Oy m.states rest (some x)=Oy m.states (x::rest) p:=fun {p} h=>by cases p<;>simp_all[Oy]
  have hw:=Bo hi hl
  rcases hs with⟨rfl,rfl⟩|⟨hpos,rfl⟩
  ·simp only[Int.natCast_zero,Int.zero_add]at hd h5 hw
   (have hb:=trivial;with_reducible repeat' (first|simp only[hb,Vc.down,seval,aVV.down,h1,h2,h5,hd,hx,acL,iv,aEY,hw,Int.toNat_zero,Int.le_refl,acR,decide_false]|refine Bm ?_ ?_<;>intro hb|refine fd ?_|fail))
   all_goals first
    |exact kQ _ _ _ (by rw[if_neg (by rw[kF (by simp_all)];simp)];exact⟨rfl,by simp[up]⟩)
    |exact Bn (kJ _ _ (some x) ⟨.inr ⟨by omega,by simp[hx]⟩,rfl,by simp[up,h1],by simp[up,h2],by simp[up]<;>omega⟩ (kT (by simp_all)))
  ·obtain⟨j,rfl⟩:∃j,i=j+1:=⟨i-1,by omega⟩
   obtain⟨q,hq⟩:∃q,l[j]?=some q:=⟨l[j],aLH (by omega)⟩
   have hj:IntKind.i64.wrap (((j+1:Nat):Int)-1)=(j:Int):=by unfold maxLen at hl;rw[Dz (by omega) (by omega)];omega
   have hg:decide (0<((j+1:Nat):Int))=true:=by rw[decide_eq_true_eq];omega
   simp only[Nat.add_sub_cancel,hq]at kJ kQ
   (have hb:=trivial;with_reducible repeat' (first|simp only[hb,Vc.down,seval,aVV.down,h1,h2,h5,hd,hx,acL,iv,aEY,hw,hj,hg,hq]|refine Bm ?_ ?_<;>intro hb|refine fd ?_|fail))
   all_goals first
    |exact kQ _ _ _ (by rw[if_neg (by rw[kF (by simp_all)];simp)];exact⟨rfl,by simp[up]⟩)
    |exact Bn (kJ _ _ (some x) ⟨.inr ⟨by omega,by simp[hx]⟩,rfl,by simp[up,h1],by simp[up,h2],by simp[up]<;>omega⟩ (kT (by simp_all)))
 ·exact⟨.inl ⟨rfl,rfl⟩,rfl,by simp[up,Fe],by simp[up],by simp[up]⟩
 ·split at hk
  ·obtain rfl:=hk
   rename_i hr
   (have hb:=trivial;with_reducible repeat' (first|simp only[hb,Vc.down,seval,aVV.down]|refine Bm ?_ ?_<;>intro hb|refine fd ?_|fail))
   all_goals simp_all
  ·obtain⟨rfl,h2⟩:=hk
   rename_i hr
   (have hb:=trivial;with_reducible repeat' (first|simp only[hb,Vc.down,seval,aVV.down,h2]|refine Bm ?_ ?_<;>intro hb|refine fd ?_|fail))
   all_goals simp[hr]
theorem Vx(m:Ah):Di 8 (.agg m.cells)=true:=by simp[Ah.cells,aCN,uV,Xy]
theorem aDK(H:Aa)(m:Ah):rdV H (.agg m.cells)=some (.agg m.cells):=dM _ (d:=8) (by omega) (Vx m)
theorem aR2(h:Aa)(m:Ah)(n:Int):[AV.agg m.cells,AV.int .i64 n].flatMap (Dk 12 (hf h))=[]:=by
 rw[aLF,Vk (hf h) (show 8≤12 by omega) (Vx m)]
 rfl
def aRR(m:Ah):Int:=(List.range m.sens.length).foldl (fun n k=>IntKind.i64.wrap (n*((Nz m k).length:Int))) (IntKind.i64.wrap (m.cmds+1))
theorem a8O{m:Ah}(hs:m.small)(hm:Ce m=true):Ec.call (.fn 52) [.agg m.cells] []=some (.ret (.int .i64 (aRR m)),[]):=by
 obtain⟨q,hq⟩:∃q,Fn.func 77=q:=⟨_,rfl⟩
 have hs6:=awF hm
 refine ce Try.func52 ?_
 simp only[Try.f52]
 (have hb:=trivial;with_reducible repeat' (first|simp only[hb,Vc.down,seval,a4M.down,acL]|refine Bm ?_ ?_<;>intro hb|refine fd ?_|fail))
 refine Eo (Wy 22 (List.range m.sens.length) (fun i (n:Int) t h=>t 1=.ptr 0 0 0∧t 3=.int .i64 n∧t 4=.int .i64 i∧∃x,h[0]?=some (.live 7 false x [m.cells])) (fun rest n=>rest.foldl (fun n k=>IntKind.i64.wrap (n*((Nz m k).length:Int))) n) (fun r e t h=>e=.exit 0∧t 3=.int .i64 r) ?_ ?_ (IntKind.i64.wrap (m.cmds+1)) _ _ ?_) (fun e t h hk=>?_)
 ·rintro n t h Q' kQ ⟨c1,c3,c4,x0,h0⟩
  rw[aLI]at c4
  (have hb:=trivial;with_reducible repeat' (first|simp only[hb,Vc.down,seval,a4M.down,c1,c3,c4,h0,acL,acR,decide_false]|refine Bm ?_ ?_<;>intro hb|refine fd ?_|fail))
  exact kQ _ _ _ ⟨rfl,by simp[up,c3]⟩
 ·rintro k rest i n t h J Q' kJ kQ hx hi ⟨c1,c3,c4,x0,h0⟩
  rw[aLI]at hi
  obtain rfl:i=k:=by rw[List.getElem?_range hi]at hx;cases hx;rfl
  have hd:((i:Int)<(m.sens.length:Int))=True:=eq_true (by omega)
  have hw:=Bo hi hs.sens
  obtain⟨nn,KE⟩:=aX7 hs hm hi
  obtain⟨v,es,H1,R,e1,e2,K,r1,r2,r3⟩:=KE.cl (H:=h) (args:=[.agg m.cells,.int .i64 (i:Int)]) (uA rfl) (by simp only[Ou,Um,aDK,Ly];rfl) (by simp[Vx,List.all_cons,uV])
  rw[hq]at e1
  have hlen:∃b,v=.slr 1 b 0 (Nz m i).length:=by
   rcases bO r1 with⟨_,h1⟩|⟨b,rows',rfl,_⟩
   ·simp[Nz]at h1
   ·exact⟨b,by simp⟩
  obtain⟨b,rfl⟩:=hlen
  have h01:H1[0]?=some (.live 7 false x0 [m.cells]):=by
   rw[K.same 0 (Aw h0) (by rw[show [AV.agg m.cells,AV.int .i64 (i:Int)].flatMap (Dk 12 (hf h))=[]from aR2 h m i];simp)];exact h0
  (have hb:=trivial;with_reducible repeat' (first|simp only[hb,Vc.down,seval,a4M.down,c1,c3,c4,h0,hd,hw,hq,e1,e2,acL]|refine Bm ?_ ?_<;>intro hb|refine fd ?_|fail))
  exact Bn (kJ _ _ (IntKind.i64.wrap (n*((Nz m i).length:Int))) ⟨by simp[up,c1],by simp[up],by simp[up]<;>omega,x0,h01⟩ rfl)
 ·exact⟨by simp[up,Fe],by simp[up],by simp[up],false,rfl⟩
 ·obtain⟨rfl,c3⟩:=hk
  (have hb:=trivial;with_reducible repeat' (first|simp only[hb,Vc.down,seval,a4M.down,c3]|refine Bm ?_ ?_<;>intro hb|refine fd ?_|fail))
  all_goals rfl
def aEW(m:Ah)(n:Int):Bool:=aCB m&&(!Ce m||(decide (m.sens.length≤3)&&decide (aRR m≤n)))
theorem a31{m:Ah}(hs:m.small)(n:Int):Ec.call (.fn 20) [.agg m.cells,.int .i64 n] []=some (.ret (.bool (aEW m n)),[]):=by
 have h1:=a17 m hs
 have h2:=aJD m hs
 unfold aEW
 have l3:decide ((m.sens.length:Int)≤3)=decide (m.sens.length≤3):=by rw[decide_eq_decide];omega
 cases c1:aCB m with
 |false=>
  rw[c1]at h1
  (refine ce Try.func20 ?_;simp only[Try.f20];(have hb:=trivial;with_reducible repeat' (first|simp only[hb,Vc.down,seval,a6B.down,h1]|refine Bm ?_ ?_<;>intro hb|refine fd ?_|fail)))
 |true=>
  rw[c1]at h1
  cases c2:Ce m with
  |false=>
   rw[c2]at h2
   (refine ce Try.func20 ?_;simp only[Try.f20];(have hb:=trivial;with_reducible repeat' (first|simp only[hb,Vc.down,seval,a6B.down,h1,h2]|refine Bm ?_ ?_<;>intro hb|refine fd ?_|fail)))
  |true=>
   rw[c2]at h2
   have h3:=a8O hs c2
   cases c3:decide (m.sens.length≤3)with
   |false=>
    rw[c3]at l3
    have l4:=of_decide_eq_false l3
    (refine ce Try.func20 ?_;simp only[Try.f20];(have hb:=trivial;with_reducible repeat' (first|simp only[hb,Vc.down,seval,a6B.down,h1,h2,l3,l4,acL]|refine Bm ?_ ?_<;>intro hb|refine fd ?_|fail)))
    all_goals simp_all
   |true=>
    rw[c3]at l3
    have l4:=of_decide_eq_true l3
    (refine ce Try.func20 ?_;simp only[Try.f20];(have hb:=trivial;with_reducible repeat' (first|simp only[hb,Vc.down,seval,a6B.down,h1,h2,h3,l3,l4,acL]|refine Bm ?_ ?_<;>intro hb|refine fd ?_|fail)))
    all_goals simp_all
theorem aNO{m:Ah}(hm:Ce m=true){a:List Int × Int}(h:Leg m a):aRV m (tsc a)=true:=by
 have hc:=eT hm
 obtain⟨h1,h2,h3,h4⟩:=h
 simp only[aRV,aE7,aID,aJZ,beq_iff_eq]
 rw[Dz (by omega) (by omega)]
 refine⟨⟨by simp only[tsc];omega,fun n hn=>(aNG n).2 (h2 n hn)⟩,?_⟩
 simp only[Qy,tsc,aID,decide_eq_true_eq]
 exact⟨decide_eq_true h3,decide_eq_true (by omega)⟩
theorem aKG{m:Ah}(hm:Ce m=true):okN m (m.bgn,0):=by
 have hs:=Kv hm
 exact⟨hs.2.2.1,hs.2.2.2,by simp,by simp⟩
end Go.Proofs.Ytfkokgjfpojeoaa
