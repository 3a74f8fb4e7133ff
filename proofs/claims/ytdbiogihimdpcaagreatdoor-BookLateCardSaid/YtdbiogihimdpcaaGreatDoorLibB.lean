/- The evaluator and its soundness. -/
import Derived.Test.YtdbiogihimdpcaaGreatDoorLibA
import Derived.RangeFuncLeaves
import Derived.RangeFuncRecord
open List renaming getElem?_eq_getElem→aa9,mem_of_getElem?→acL,mem_iff_getElem→acQ,getElem?_eq_some_iff→acR,mem_cons_of_mem→acV,mem_cons→adG,mem_cons_self→adJ,prefix_refl→adK,mem_flatMap→adN,any_eq_false→adP,getD_eq_getElem?_getD→adQ,mem_append_right→aeY,mem_append_left→ajX,replicate→ajY,idxOf?_eq_none_iff→aj0,any_eq_true→aj1,mem_append→ak9,getElem?_drop→alO,getElem_inj→an1,mem_singleton→aoB,range'→aoC,length_cons→aoH,getElem?_eq_none→aoK,getElem?_take→aoL,idxOf?_eq_some_iff→aoO,range'_succ→aoP,range_eq_range'→arW,getElem_mem→asD,length_map→as7,mapM_cons→as9,getElem?_replicate→atA
open Option renaming bind_eq_some_iff→abQ,map_eq_some_iff→acI,some→adL,bind_some→aoF
open Nat renaming le_refl→adM,lt_or_ge→adO
open Array renaming getElem?_eq_some_iff→ae4,replicate→ajZ,getD_eq_getD_getElem?→as8
open Bool renaming or_eq_false_iff→aoN
set_option linter.unusedSimpArgs false
set_option linter.unusedVariables false
namespace Go.Ev
open Go.RowKit
section
variable {P:Program} {w:World} {S Sc:Nat→Prop} {ρ:Am} {g:HF}
theorem VR.monoS(hS:∀b,S b→Sc b){x:AV}{v:Value}(h:VR w S ρ x v):VR w Sc ρ x v:=h.mono (fun _ _=>rfl) hS ρ.le_refl
theorem sS:∀{d:Nat} {x x':AV},Gi d g x=some x'→x.isCell=true→x'.isCell=true
 |0,_,_,h,_=>by simp[Gi]at h
 |d+1,x,x',h,hc=>by
  cases x with
  |slr st0 b r len=>
   simp only[Gi,abQ]at h
   obtain⟨⟨st,fl,rows⟩,h1,h2⟩:=h
   simp only at h2
   split at h2
   ·simp at h2;subst h2;rfl
   ·obtain⟨r,_,rfl⟩:=acI.1 h2;rfl
  |agg cs=>simp[AV.isCell]at hc
  |tup cs=>simp[AV.isCell]at hc
  |iface t y=>obtain⟨y,_,rfl⟩:=acI.1 h;rfl
  |ptr b r o=>simp[Gi]at h
  |func fn a b=>
   cases a<;>cases b<;>simp[Gi]at h
   subst h;rfl
  |yl a=>simp[Gi]at h
  |_=>simp[Gi]at h;subst h;rfl
theorem zH(H:HR w S ρ g){st0 b r len:Nat}{v:Value}(hx:VR w S ρ (.slr st0 b r len) v){st:Nat}{fl:Bool}{rows:List (List AV)}(hr:Gf g b r len=some (st,fl,rows))
 (hL:∀cb co st sz,ρ b=.pl cb co st sz→Sc cb) {rows':List (List AV)} {fl':Bool} (hlen:rows.length=rows'.length)
 (hrow:∀(i:Nat) (r r':List AV),rows[i]?=some r→rows'[i]?=some r'→r.length=r'.length∧∀(j:Nat) (x x':AV) (v:Value),r[j]?=some x→r'[j]?=some x'→VR w S ρ x v→∀ρ',VR w Sc ρ' x' v)
 (hfl:fl'=true→∀r∈rows',∀x∈r,x.flat=true) (hcl:∀r∈rows',∀x∈r,x.isCell=true) (ρ':Am):VR w Sc ρ' (.imm st fl' rows') v:=by
 cases hx with
 |slrD hρ _=>simp[Gf,H.dead b hρ]at hr
 | @slr _ _ _ _ cb co _ sz cap a hρ hle ha=>
   obtain⟨c,e,fz,fl0,rows0,h1,h2,h3,h4⟩:=H.at_ b cb co st0 sz hρ
   have hg:r+len≤rows0.length∧st0=st∧fl0=fl∧(rows0.drop r).take len=rows:=by
    rcases h4 with⟨⟨wr,h4⟩,_⟩|⟨h4,_⟩<;>simpa [Gf,h4]using hr
   obtain⟨hrl,rfl,rfl,rfl⟩:=hg
   have hl:((rows0.drop r).take len).length=len:=by simp;omega
   have hsub:∀(i:Nat) row,((rows0.drop r).take len)[i]?=some row→rows0[r+i]?=some row:=fun i row hr=>by
    rw[aoL]at hr
    split at hr
    ·rwa[alO]at hr
    ·simp at hr
   have getr:∀(i:Nat) (r':List AV),rows'[i]?=some r'→∃row,((rows0.drop r).take len)[i]?=some row:=fun i r' hr'=>by
    have:i<rows'.length:=(acR.1 hr').1
    exact⟨_,aa9 (by omega)⟩
   have hlr:rows'.length=len:=by omega
   have hwid:∀r'∈rows',r'.length=st0:=fun r' hr'=>by
    obtain⟨i,hi,rfl⟩:=acQ.1 hr'
    obtain⟨row,hrow'⟩:=getr i _ (aa9 hi)
    rw[←(hrow i row _ hrow' (aa9 hi)).1]
    exact h3.wide row (acL (hsub i row hrow'))
   suffices hh:VR w Sc ρ' (.imm st0 fl' rows') (.slice (some a) rows'.length cap) by rw[hlr]at hh;exact hh
   rcases ha with ha|⟨rfl,ha⟩
   ·have:rows'=[]:=List.eq_nil_of_length_eq_zero (by omega)
    subst this
    exact .imm (fun _ _=>.nilFunc) (.inl rfl) (by simp) (by simp) (by simp) (by simp) (by simp) (by simp)
   ·refine VR.imm (fun i j=>(c[co+(r+i)*st0+j]?).getD undef) (.inr ⟨hL _ _ _ _ hρ,rfl⟩) (by omega) hwid hfl hcl (fun i r' j x' hr' hx'=>?_) (fun ρ'' i r' j x' hr' hx'=>?_)
    all_goals
     obtain⟨row,hrow'⟩:=getr i _ hr'
     obtain⟨e1,e2⟩:=hrow i row r' hrow' hr'
     have hj:j<row.length:=by rw[e1];exact(acR.1 hx').1
     obtain⟨cv,h5,h6⟩:=h3.cell (r+i) row j _ (hsub i row hrow') (aa9 hj)
    ·rw[iQ h1,show co+r*st0+i*st0+j=co+(r+i)*st0+j by rw[Nat.add_mul];omega,h5];rfl
    ·rw[h5];exact e2 j _ x' cv (aa9 hj) hx' h6 ρ''
theorem Wl(H:HR w S ρ g)(hS:∀b,S b→Sc b):∀{d:Nat} {x x':AV} {v:Value},Gi d g x=some x'→VR w S ρ x v→(∀b∈Aw d g x,∀cb co st sz,ρ b=.pl cb co st sz→Sc cb)→
 ∀ρ':Am,VR w Sc ρ' x' v
 |0,_,_,_,h,_,_=>by simp[Gi]at h
 |d+1,x,x',v,h,hx,hL=>by
  intro ρ'
  cases x with
  |slr st0 b r len=>
   simp only[Gi,abQ]at h
   obtain⟨⟨st,fl,rows⟩,hr,h⟩:=h
   simp only at h
   have hLb:∀cb co st sz,ρ b=.pl cb co st sz→Sc cb:=fun cb co st sz hb=>hL b (by simp[Aw]) cb co st sz hb
   obtain⟨cb,co,sz,cap,a,vals,q1,q2,q3,q4,q5,q6,q7,q8,q9,q10,q11⟩:=dD H hr hx
   split at h
   ·rename_i hfl
    simp at h;subst h
    refine zH H hx hr hLb rfl (fun i r1 r2 h1 h2=>?_) (fun _=>q10 hfl) q11 ρ'
    rw[h1]at h2;cases h2
    exact⟨rfl,fun j y y' u hy hy' hu ρ''=>by rw[hy]at hy';cases hy';exact hu.flat (q10 hfl r1 (acL h1) y (acL hy))⟩
   ·rename_i hfl
    obtain⟨rows',ho,rfl⟩:=acI.1 h
    obtain⟨o1,o2⟩:=Ei ho
    have hin:∀row∈rows,∀y∈row,∀b∈Aw d g y,∀cb co st sz,ρ b=.pl cb co st sz→Sc cb:=fun row hrow y hy b' hb'=>hL b' (by
     simp only[Aw,hr,hfl]
     exact acV _ (adN.2 ⟨row,hrow,adN.2 ⟨y,hy,hb'⟩⟩))
    refine zH H hx hr hLb o1 (fun i r1 r2 h1 h2=>?_) (by simp) (fun r' hr' y' hy'=>?_) ρ'
    ·obtain⟨r1',h1',h3⟩:=o2 i r2 h2
     rw[h1]at h1';cases h1'
     obtain⟨p1,p2⟩:=Ei h3
     refine⟨p1,fun j y y' u hy hy' hu=>?_⟩
     obtain⟨y0,hy0,hy1⟩:=p2 j y' hy'
     rw[hy]at hy0;cases hy0
     exact Wl H hS hy1 hu (hin r1 (acL h1) y (acL hy))
    ·obtain⟨i,hi,rfl⟩:=acQ.1 hr'
     obtain⟨r1,h1,h3⟩:=o2 i _ (aa9 hi)
     obtain⟨p1,p2⟩:=Ei h3
     obtain⟨j,hj,rfl⟩:=acQ.1 hy'
     obtain⟨y0,hy0,hy1⟩:=p2 j _ (aa9 hj)
     exact sS hy1 (q11 r1 (acL h1) y0 (acL hy0))
  |agg cs=>
   obtain⟨cs',ho,rfl⟩:=acI.1 h
   cases hx with
   | @agg _ _ vs hl hc=>
     obtain⟨o1,o2⟩:=Ei ho
     refine .agg (by rw[←o1];exact hl) (fun i y u hy hu=>?_)
     obtain⟨y0,hy0,hy1⟩:=o2 i y hy
     exact Wl H hS hy1 (hc i y0 u hy0 hu) (fun b hb=>hL b (by
      simp only[Aw];exact adN.2 ⟨y0,acL hy0,hb⟩)) ρ'
  |tup cs=>simp[Gi]at h
  |iface t y=>
   obtain⟨y',ho,rfl⟩:=acI.1 h
   cases hx with
   |iface hy=>exact .iface (Wl H hS ho hy (fun b hb=>hL b (by simpa [Aw]using hb)) ρ')
  |ptr b r o=>simp[Gi]at h
  |func fn a b=>
   cases a<;>cases b<;>simp[Gi]at h
   subst h
   cases hx with
   |func h1 h2 h3 h4=>exact .func h1 h2 (fun i x v hx=>by simp at hx) (fun i x v hx=>by simp at hx)
  |yl a=>simp[Gi]at h
  |bool b=>simp[Gi]at h;subst h;cases hx;exact .bool _
  |int k n=>simp[Gi]at h;subst h;cases hx;exact .int _ _
  |str s=>simp[Gi]at h;subst h;cases hx;exact .str _
  |nilp=>simp[Gi]at h;subst h;cases hx;exact .nilp
  |iptr cs=>simp[Gi]at h;subst h;have hm:=hx.monoS hS;cases hm with|iptr f a b c=>exact .iptr f a b c
  |nils=>simp[Gi]at h;subst h;cases hx;exact .nils
  |imm a b c=>simp[Gi]at h;subst h;have hm:=hx.monoS hS;cases hm with|imm f a b c d e g k=>exact .imm f a b c d e g k
  |nilf=>simp[Gi]at h;subst h;cases hx;exact .nilf
  |nili=>simp[Gi]at h;subst h;cases hx;exact .nili
theorem aM(H:HR w S ρ g)(hS:∀b,S b→Sc b):∀{d:Nat} {x x':AV} {v:Value},Hh d g x=some x'→VR w S ρ x v→(∀b∈Aw d g x,∀cb co st sz,ρ b=.pl cb co st sz→Sc cb)→VR w Sc ρ x' v
 |0,_,_,_,h,_,_=>by simp[Hh]at h
 |d+1,x,x',v,h,hx,hL=>by
  cases x with
  |slr st0 b r len=>exact Wl H hS (d:=d+1) (by simpa [Hh]using h) hx hL ρ
  |agg cs=>
   obtain⟨cs',ho,rfl⟩:=acI.1 h
   cases hx with
   | @agg _ _ vs hl hc=>
     obtain⟨o1,o2⟩:=Ei ho
     refine .agg (by rw[←o1];exact hl) (fun i y u hy hu=>?_)
     obtain⟨y0,hy0,hy1⟩:=o2 i y hy
     exact aM H hS hy1 (hc i y0 u hy0 hu) (fun b hb=>hL b (by
      simp only[Aw];exact adN.2 ⟨y0,acL hy0,hb⟩))
  |iface t y=>
   obtain⟨y',ho,rfl⟩:=acI.1 h
   cases hx with
   |iface hy=>exact .iface (aM H hS ho hy (fun b hb=>hL b (by simpa [Aw]using hb)))
  |_=>simp[Hh]at h;subst h;exact hx.monoS hS
theorem VR.ren{f:Nat→Nat}{ρ':Am}(hf:∀b,ρ b≠.fresh→ρ' (f b)=ρ b):∀{d:Nat} {x x':AV} {v:Value},Ci d f x=some x'→VR w S ρ x v→VR w S ρ' x' v
 |0,_,_,_,h,_=>by simp[Ci]at h
 |d+1,x,x',v,h,hx=>by
  cases hx with
  |bool b=>simp[Ci]at h;subst h;exact .bool _
  |int k n=>simp[Ci]at h;subst h;exact .int _ _
  |str s=>simp[Ci]at h;subst h;exact .str _
  |nilp=>simp[Ci]at h;subst h;exact .nilp
  |ptr h1=>simp[Ci]at h;subst h;exact .ptr (by rw[hf _ (by rw[h1];simp),h1])
  |ptrD h1=>simp[Ci]at h;subst h;exact .ptrD (by rw[hf _ (by rw[h1];simp),h1])
  |iptr f' a b c=>simp[Ci]at h;subst h;exact .iptr f' a b c
  |nils=>simp[Ci]at h;subst h;exact .nils
  |imm f' a b c d e g k=>simp[Ci]at h;subst h;exact .imm f' a b c d e g k
  |slr h1 h2 h3=>simp[Ci]at h;subst h;exact .slr (by rw[hf _ (by rw[h1];simp),h1]) h2 h3
  |slrD h1 h2=>simp[Ci]at h;subst h;exact .slrD (by rw[hf _ (by rw[h1];simp),h1]) h2
  | @func _ fn a c va vc h1 h2 h3 h4=>
    simp only[Ci,abQ,acI]at h
    obtain⟨a',ha,c',hc,rfl⟩:=h
    obtain⟨o1,o2⟩:=Ei ha
    obtain⟨p1,p2⟩:=Ei hc
    refine .func (by rw[←o1];exact h1) (by rw[←p1];exact h2) (fun i y u hy hu=>?_) (fun i y u hy hu=>?_)
    ·obtain⟨y0,hy0,hy1⟩:=o2 i y hy;exact VR.ren hf hy1 (h3 i y0 u hy0 hu)
    ·obtain⟨y0,hy0,hy1⟩:=p2 i y hy;exact VR.ren hf hy1 (h4 i y0 u hy0 hu)
  |yl h1=>simp[Ci]at h;subst h;exact .yl (by rw[hf _ (by rw[h1];simp),h1])
  |ylD h1=>simp[Ci]at h;subst h;exact .ylD (by rw[hf _ (by rw[h1];simp),h1])
  |nilf=>simp[Ci]at h;subst h;exact .nilf
  |iface h1=>
   obtain⟨y',ho,rfl⟩:=acI.1 h
   exact .iface (VR.ren hf ho h1)
  |nili=>simp[Ci]at h;subst h;exact .nili
  |agg h1 h2=>
   obtain⟨a',ha,rfl⟩:=acI.1 h
   obtain⟨o1,o2⟩:=Ei ha
   refine .agg (by rw[←o1];exact h1) (fun i y u hy hu=>?_)
   obtain⟨y0,hy0,hy1⟩:=o2 i y hy;exact VR.ren hf hy1 (h2 i y0 u hy0 hu)
  |tup h1 h2=>
   obtain⟨a',ha,rfl⟩:=acI.1 h
   obtain⟨o1,o2⟩:=Ei ha
   refine .tup (by rw[←o1];exact h1) (fun i y u hy hu=>?_)
   obtain⟨y0,hy0,hy1⟩:=o2 i y hy;exact VR.ren hf hy1 (h2 i y0 u hy0 hu)
theorem uD{f:Nat→Nat}{d:Nat}{x x':AV}(h:Ci d f x=some x')(hc:x.isCell=true):x'.isCell=true:=by
 cases d with
 |zero=>simp[Ci]at h
 |succ d=>
  cases x with
  |func fn a b=>
   simp only[Ci,abQ,acI]at h
   obtain⟨_,_,_,_,rfl⟩:=h;rfl
  |agg cs=>simp[AV.isCell]at hc
  |tup cs=>simp[AV.isCell]at hc
  |iface t y=>obtain⟨_,_,rfl⟩:=acI.1 h;rfl
  |_=>simp[Ci]at h;subst h;rfl
theorem VR.noImm{S':Nat→Prop}:∀{d:Nat} {x:AV} {v:Value},hasImm d x=false→VR w S ρ x v→VR w S' ρ x v
 |0,_,_,h,_=>by simp[hasImm]at h
 |d+1,x,v,h,hx=>by
  cases hx with
  |bool b=>exact .bool _
  |int k n=>exact .int _ _
  |str s=>exact .str _
  |nilp=>exact .nilp
  |ptr h1=>exact .ptr h1
  |ptrD h1=>exact .ptrD h1
  |iptr f' a b c=>simp[hasImm]at h
  |nils=>exact .nils
  | @imm _ st fl rows a cap f' s1 b c d e g k=>
    cases rows with
    |nil=>exact .imm f' (.inl rfl) b c d e g (fun ρ' i r j x hr=>by simp at hr)
    |cons r rs=>simp[hasImm]at h
  |slr h1 h2 h3=>exact .slr h1 h2 h3
  |slrD h1 h2=>exact .slrD h1 h2
  |func h1 h2 h3 h4=>
   simp only[hasImm,aoN,adP]at h
   exact .func h1 h2 (fun i y u hy hu=>VR.noImm (d:=d) (by simpa using h.1 y (acL hy)) (h3 i y u hy hu)) (fun i y u hy hu=>VR.noImm (d:=d) (by simpa using h.2 y (acL hy)) (h4 i y u hy hu))
  |yl h1=>exact .yl h1
  |ylD h1=>exact .ylD h1
  |nilf=>exact .nilf
  |iface h1=>exact .iface (VR.noImm (d:=d) (by simpa [hasImm]using h) h1)
  |nili=>exact .nili
  |agg h1 h2=>
   simp only[hasImm,adP]at h
   exact .agg h1 (fun i y u hy hu=>VR.noImm (d:=d) (by simpa using h y (acL hy)) (h2 i y u hy hu))
  |tup h1 h2=>
   simp only[hasImm,adP]at h
   exact .tup h1 (fun i y u hy hu=>VR.noImm (d:=d) (by simpa using h y (acL hy)) (h2 i y u hy hu))
end
section
variable {P:Program} {w:World} {S Sc:Nat→Prop} {ρ:Am} {g:HF}
theorem Ol(m:List Nat)(b:Nat):(place m b).2[(place m b).1]?=some b∧m <+:(place m b).2∧(m.Nodup→(place m b).2.Nodup):=by
 unfold place
 split
 ·rename_i i h
  obtain⟨h1,h2,_⟩:=aoO.1 h
  exact⟨by rw[aa9 h1,h2],adK _,id⟩
 ·rename_i h
  have hn:b∉m:=aj0.1 h
  refine⟨by simp,List.prefix_append _ _,fun hd=>?_⟩
  rw[List.nodup_append]
  exact⟨hd,by simp,fun a ha c hc=>by simp at hc;subst hc;exact fun e=>hn (e▸ha)⟩
theorem Ox{m m':List Nat}(h:m <+:m'){i b:Nat}(hi:m[i]?=some b):m'[i]?=some b:=by
 obtain⟨t,rfl⟩:=h
 rw[List.getElem?_append_left (acR.1 hi).1];exact hi
theorem uL{m m':List Nat}(h:m <+:m'){i b base:Nat}(hi:m[i]?=some b):m'.getD i base=b:=by
 rw[adQ,Ox h hi];rfl
def Am.via(ρ:Am)(m:List Nat)(base:Nat):Am:=fun i=>ρ (m.getD i base)
theorem Am.via_at{m m':List Nat}{i b base:Nat}(h:m <+:m')(hi:m[i]?=some b):ρ.via m' base i=ρ b:=by
 unfold Am.via;rw[uL h hi]
structure gU(m m':List Nat)(x x':AV):Prop where
 pre:m <+:m'
 nodup:m.Nodup→m'.Nodup
 cell:x.isCell=true→x'.isCell=true
 flat:x.flat=true→x'=x
 vr:∀{w:World} {S:Nat→Prop} {ρ:Am} {v:Value} {m'':List Nat} (base:Nat),m' <+:m''→VR w S ρ x v→VR w S (ρ.via m'' base) x' v
theorem Uf{f:List Nat→AV→Option (AV × List Nat)}(hf:∀m x x' m',f m x=some (x',m')→gU m m' x x'):∀{xs xs':List AV} {m m':List Nat},Dx.refL f m xs=some (xs',m')→
 m <+:m'∧(m.Nodup→m'.Nodup)∧xs.length=xs'.length∧∀(i:Nat) x x',xs[i]?=some x→xs'[i]?=some x'→∃m1 m2,gU m1 m2 x x'∧m2 <+:m'
 | [],xs',m,m',h=>by
   simp[Dx.refL]at h;obtain⟨rfl,rfl⟩:=h
   exact⟨adK _,id,rfl,fun i x x' hx=>by simp at hx⟩
 |x::xs,xs',m,m',h=>by
  simp only[Dx.refL,abQ,acI]at h
  obtain⟨⟨y,m1⟩,hy,⟨ys,m2⟩,hys,heq⟩:=h
  simp only[Prod.mk.injEq]at heq
  obtain⟨rfl,rfl⟩:=heq
  have h1:=hf _ _ _ _ hy
  obtain⟨p1,p2,p3,p4⟩:=Uf hf hys
  refine⟨h1.pre.trans p1,fun hd=>p2 (h1.nodup hd),by simp[p3],fun i x0 x0' hx hx'=>?_⟩
  cases i with
  |zero=>simp at hx hx';subst hx hx';exact⟨_,_,h1,p1⟩
  |succ i=>simp at hx hx';exact p4 i _ _ hx hx'
theorem dE:∀{d:Nat} {m m':List Nat} {x x':AV},Dx d m x=some (x',m')→gU m m' x x'
 |0,_,_,_,_,h=>by simp[Dx]at h
 |d+1,m,m',x,x',h=>by
  have IH:∀m x x' m',Dx d m x=some (x',m')→gU m m' x x':=fun m x x' m' h=>dE h
  have same:∀{y:AV},(some (y,m):Option (AV × List Nat))=some (x',m')→(∀{w:World} {S:Nat→Prop} {ρ ρ':Am} {v:Value},VR w S ρ y v→VR w S ρ' y v)→gU m m' y x':=fun {y} h hv=>by
   simp at h;obtain⟨rfl,rfl⟩:=h
   exact⟨adK _,id,id,fun _=>rfl,fun base _ hx=>hv hx⟩
  cases x with
  |ptr b r o=>
   simp[Dx]at h;obtain⟨rfl,rfl⟩:=h
   obtain⟨p1,p2,p3⟩:=Ol m b
   refine⟨p2,p3,fun _=>rfl,fun h=>by simp[AV.flat]at h,fun base hp hx=>?_⟩
   cases hx with
   |ptr hb=>exact .ptr (by rw[Am.via_at hp p1];exact hb)
   |ptrD hb=>exact .ptrD (by rw[Am.via_at hp p1];exact hb)
  |slr st b r len=>
   simp[Dx]at h;obtain⟨rfl,rfl⟩:=h
   obtain⟨p1,p2,p3⟩:=Ol m b
   refine⟨p2,p3,fun _=>rfl,fun h=>by simp[AV.flat]at h,fun base hp hx=>?_⟩
   cases hx with
   |slr hb h2 h3=>exact .slr (by rw[Am.via_at hp p1];exact hb) h2 h3
   |slrD hb h2=>exact .slrD (by rw[Am.via_at hp p1];exact hb) h2
  |agg cs=>
   simp only[Dx,acI]at h
   obtain⟨⟨cs',m1⟩,h1,heq⟩:=h
   simp only[Prod.mk.injEq]at heq;obtain⟨rfl,rfl⟩:=heq
   obtain⟨p1,p2,p3,p4⟩:=Uf IH h1
   refine⟨p1,p2,fun h=>by simp[AV.isCell]at h,fun h=>by simp[AV.flat]at h,fun base hp hx=>?_⟩
   cases hx with
   |agg hl hc=>
    refine .agg (by rw[←p3];exact hl) (fun i y u hy hu=>?_)
    have hi:i<cs.length:=by rw[p3];exact(acR.1 hy).1
    obtain⟨m2,m3,q1,q2⟩:=p4 i _ y (aa9 hi) hy
    exact q1.vr base (q2.trans hp) (hc i _ u (aa9 hi) hu)
  |tup cs=>
   simp only[Dx,acI]at h
   obtain⟨⟨cs',m1⟩,h1,heq⟩:=h
   simp only[Prod.mk.injEq]at heq;obtain⟨rfl,rfl⟩:=heq
   obtain⟨p1,p2,p3,p4⟩:=Uf IH h1
   refine⟨p1,p2,fun h=>by simp[AV.isCell]at h,fun h=>by simp[AV.flat]at h,fun base hp hx=>?_⟩
   cases hx with
   |tup hl hc=>
    refine .tup (by rw[←p3];exact hl) (fun i y u hy hu=>?_)
    have hi:i<cs.length:=by rw[p3];exact(acR.1 hy).1
    obtain⟨m2,m3,q1,q2⟩:=p4 i _ y (aa9 hi) hy
    exact q1.vr base (q2.trans hp) (hc i _ u (aa9 hi) hu)
  |iface t y=>
   simp only[Dx,acI]at h
   obtain⟨⟨y',m1⟩,h1,heq⟩:=h
   simp only[Prod.mk.injEq]at heq;obtain⟨rfl,rfl⟩:=heq
   have q:=dE h1
   refine⟨q.pre,q.nodup,fun _=>rfl,fun h=>by simp[AV.flat]at h,fun base hp hx=>?_⟩
   cases hx with
   |iface hy=>exact .iface (q.vr base hp hy)
  |func fn a b=>
   simp only[Dx,abQ,acI]at h
   obtain⟨⟨a',m1⟩,h1,⟨b',m2⟩,h2,heq⟩:=h
   simp only[Prod.mk.injEq]at heq;obtain⟨rfl,rfl⟩:=heq
   obtain⟨p1,p2,p3,p4⟩:=Uf IH h1
   obtain⟨r1,r2,r3,r4⟩:=Uf IH h2
   refine⟨p1.trans r1,fun h=>r2 (p2 h),fun _=>rfl,fun h=>by simp[AV.flat]at h,fun base hp hx=>?_⟩
   cases hx with
   |func k1 k2 k3 k4=>
    refine .func (by rw[←p3];exact k1) (by rw[←r3];exact k2) (fun i y u hy hu=>?_) (fun i y u hy hu=>?_)
    ·have hi:i<a.length:=by rw[p3];exact(acR.1 hy).1
     obtain⟨m2,m3,q1,q2⟩:=p4 i _ y (aa9 hi) hy
     exact q1.vr base ((q2.trans r1).trans hp) (k3 i _ u (aa9 hi) hu)
    ·have hi:i<b.length:=by rw[r3];exact(acR.1 hy).1
     obtain⟨m2,m3,q1,q2⟩:=r4 i _ y (aa9 hi) hy
     exact q1.vr base (q2.trans hp) (k4 i _ u (aa9 hi) hu)
  |yl b=>
   simp[Dx]at h;obtain⟨rfl,rfl⟩:=h
   obtain⟨p1,p2,p3⟩:=Ol m b
   refine⟨p2,p3,fun _=>rfl,fun h=>by simp[AV.flat]at h,fun base hp hx=>?_⟩
   cases hx with
   |yl hb=>exact .yl (by rw[Am.via_at hp p1];exact hb)
   |ylD hb=>exact .ylD (by rw[Am.via_at hp p1];exact hb)
  |bool b=>exact same h (fun hx=>by cases hx;exact .bool _)
  |int k n=>exact same h (fun hx=>by cases hx;exact .int _ _)
  |str s=>exact same h (fun hx=>by cases hx;exact .str _)
  |nilp=>exact same h (fun hx=>by cases hx;exact .nilp)
  |iptr cs=>exact same h (fun hx=>by cases hx with|iptr f a b c=>exact .iptr f a b c)
  |nils=>exact same h (fun hx=>by cases hx;exact .nils)
  |imm a b c=>exact same h (fun hx=>by cases hx with|imm f a b c d e g k=>exact .imm f a b c d e g k)
  |nilf=>exact same h (fun hx=>by cases hx;exact .nilf)
  |nili=>exact same h (fun hx=>by cases hx;exact .nili)
structure aX(mf:List Nat)(rows rows':List (List AV)):Prop where
 len:rows.length=rows'.length
 row:∀(i:Nat) r r',rows[i]?=some r→rows'[i]?=some r'→r.length=r'.length∧∀(j:Nat) x x',r[j]?=some x→r'[j]?=some x'→∃m1 m2,gU m1 m2 x x'∧m2 <+:mf
theorem bI:∀{rows rows':List (List AV)} {m m':List Nat},Je m rows=some (rows',m')→m <+:m'∧(m.Nodup→m'.Nodup)∧aX m' rows rows'
 | [],rows',m,m',h=>by
   simp[Je]at h;obtain⟨rfl,rfl⟩:=h
   exact⟨adK _,id,rfl,fun i r r' hr=>by simp at hr⟩
 |r::rows,rows',m,m',h=>by
  simp only[Je,abQ,acI]at h
  obtain⟨⟨r',m1⟩,h1,⟨rs,m2⟩,h2,heq⟩:=h
  simp only[Prod.mk.injEq]at heq;obtain⟨rfl,rfl⟩:=heq
  obtain⟨p1,p2,p3,p4⟩:=Uf (fun m x x' m' h=>dE h) h1
  obtain⟨q1,q2,q3⟩:=bI h2
  refine⟨p1.trans q1,fun h=>q2 (p2 h),by simp[q3.len],fun i a a' ha ha'=>?_⟩
  cases i with
  |zero=>
   simp at ha ha';subst ha ha'
   refine⟨p3,fun j x x' hx hx'=>?_⟩
   obtain⟨m3,m4,k1,k2⟩:=p4 j x x' hx hx'
   exact⟨m3,m4,k1,k2.trans q1⟩
  |succ i=>simp at ha ha';exact q3.row i a a' ha ha'
def apD(mf:List Nat)(r r':List AV):Prop:=r.length=r'.length∧∀(j:Nat) x x',r[j]?=some x→r'[j]?=some x'→∃m1 m2,gU m1 m2 x x'∧m2 <+:mf
inductive Zw(mf:List Nat):CB→CB→Prop
 |live {st:Nat} {fl wr:Bool} {rows rows':List (List AV)}:(fl=true→rows'=rows)→(fl=false→aX mf rows rows')→Zw mf (.live st fl wr rows) (.live st fl wr rows')
 |frz {st:Nat} {fl:Bool} {rows rows':List (List AV)}:(fl=true→rows'=rows)→(fl=false→aX mf rows rows')→Zw mf (.frz st fl rows) (.frz st fl rows')
 |dead:Zw mf .dead .dead
 |lp {ps:List Nat} {asg body:Code} {tmps tmps':List AV} {st:Qb}:apD mf tmps tmps'→Zw mf (.lp ps asg body tmps st) (.lp ps asg body tmps' st)
theorem aX.mono{m m':List Nat}{rows rows':List (List AV)}(h:aX m rows rows')(hp:m <+:m'):aX m' rows rows':=
 ⟨h.len,fun i r r' hr hr'=>⟨(h.row i r r' hr hr').1,fun j x x' hx hx'=>by obtain⟨m1,m2,k1,k2⟩:=(h.row i r r' hr hr').2 j x x' hx hx';exact⟨m1,m2,k1,k2.trans hp⟩⟩⟩
theorem Zw.mono{m m':List Nat}{c c':CB}(h:Zw m c c')(hp:m <+:m'):Zw m' c c':=by
 cases h with
 |live a b=>exact .live a (fun e=>(b e).mono hp)
 |frz a b=>exact .frz a (fun e=>(b e).mono hp)
 |dead=>exact .dead
 |lp a=>exact .lp ⟨a.1,fun j x x' hx hx'=>by obtain⟨m1,m2,k1,k2⟩:=a.2 j x x' hx hx';exact⟨m1,m2,k1,k2.trans hp⟩⟩
theorem rC{m m':List Nat}{c c':CB}(h:Xt m c=some (c',m')):m <+:m'∧(m.Nodup→m'.Nodup)∧Zw m' c c':=by
 unfold Xt at h
 split at h
 ·simp at h;obtain⟨rfl,rfl⟩:=h;exact⟨adK _,id,.live (fun _=>rfl) (by simp)⟩
 ·obtain⟨⟨rows',m1⟩,h1,heq⟩:=acI.1 h
  simp only[Prod.mk.injEq]at heq;obtain⟨rfl,rfl⟩:=heq
  obtain⟨q1,q2,q3⟩:=bI h1
  exact⟨q1,q2,.live (by simp) (fun _=>q3)⟩
 ·simp at h;obtain⟨rfl,rfl⟩:=h;exact⟨adK _,id,.frz (fun _=>rfl) (by simp)⟩
 ·obtain⟨⟨rows',m1⟩,h1,heq⟩:=acI.1 h
  simp only[Prod.mk.injEq]at heq;obtain⟨rfl,rfl⟩:=heq
  obtain⟨q1,q2,q3⟩:=bI h1
  exact⟨q1,q2,.frz (by simp) (fun _=>q3)⟩
 ·simp at h;obtain⟨rfl,rfl⟩:=h;exact⟨adK _,id,.dead⟩
 ·obtain⟨⟨tmps',m1⟩,h1,heq⟩:=acI.1 h
  simp only[Prod.mk.injEq]at heq;obtain⟨rfl,rfl⟩:=heq
  obtain⟨p1,p2,p3,p4⟩:=Uf (fun m x x' m' h=>dE h) h1
  exact⟨p1,p2,.lp ⟨p3,p4⟩⟩
theorem dS:∀{n:Nat} {g:HF} {i:Nat} {m m':List Nat} {cs:List CB},Jq n g i m=some (cs,m')→i≤m.length→m <+:m'∧(m.Nodup→m'.Nodup)∧i+cs.length=m'.length∧
 ∀(j:Nat) c',cs[j]?=some c'→∃b c,m'[i+j]?=some b∧g b=some c∧Zw m' c c'
 |0,_,_,_,_,_,h,_=>by simp[Jq]at h
 |n+1,g,i,m,m',cs,h,hi=>by
  unfold Jq at h
  split at h
  ·rename_i hm
   simp at h;obtain⟨rfl,rfl⟩:=h
   have:m.length≤i:=List.getElem?_eq_none_iff.1 hm
   exact⟨adK _,id,by simp;omega,fun j c' hc=>by simp at hc⟩
  ·rename_i b hm
   simp only[abQ,acI]at h
   obtain⟨c,hc,⟨c1,m1⟩,h1,⟨cs1,m2⟩,h2,heq⟩:=h
   simp only[Prod.mk.injEq]at heq;obtain⟨rfl,rfl⟩:=heq
   obtain⟨p1,p2,p3⟩:=rC h1
   have hlt:i<m.length:=(acR.1 hm).1
   have hle:m.length≤m1.length:=p1.length_le
   obtain⟨q1,q2,q3,q4⟩:=dS h2 (show i+1≤m1.length by omega)
   refine⟨p1.trans q1,fun h=>q2 (p2 h),by simp;omega,fun j c' hj=>?_⟩
   cases j with
   |zero=>simp at hj;subst hj;exact⟨b,c,Ox (p1.trans q1) (by simpa using hm),hc,p3.mono q1⟩
   |succ j=>
    simp at hj
    obtain⟨b',c0,k1,k2,k3⟩:=q4 j c' hj
    exact⟨b',c0,by rw[←k1];congr 1;omega,k2,k3⟩
theorem iV{m m':List Nat}{vs vs':List AV}{cs:List CB}(h:Ku g m vs=some (vs',cs,m')):m <+:m'∧(m.Nodup→m'.Nodup)∧cs.length=m'.length∧
 (∀(i:Nat) c',cs[i]?=some c'→∃b c,m'[i]?=some b∧g b=some c∧Zw m' c c')∧vs.length=vs'.length∧
 ∀(i:Nat) x x',vs[i]?=some x→vs'[i]?=some x'→∃m1 m2,gU m1 m2 x x'∧m2 <+:m':=by
 unfold Ku at h
 simp only[abQ,acI]at h
 obtain⟨⟨vs1,m1⟩,h1,⟨cs1,m2⟩,h2,heq⟩:=h
 simp only[Prod.mk.injEq]at heq;obtain⟨rfl,rfl,rfl⟩:=heq
 obtain⟨p1,p2,p3,p4⟩:=Uf (fun m x x' m' h=>dE h) h1
 obtain⟨q1,q2,q3,q4⟩:=dS h2 (Nat.zero_le _)
 refine⟨p1.trans q1,fun h=>q2 (p2 h),by omega,fun i c' hc=>?_,p3,fun i x x' hx hx'=>?_⟩
 ·obtain⟨b,c,k1,k2,k3⟩:=q4 i c' hc;exact⟨b,c,by simpa using k1,k2,k3⟩
 ·obtain⟨m3,m4,k1,k2⟩:=p4 i x x' hx hx';exact⟨m3,m4,k1,k2.trans q1⟩
theorem Fa.ref(hS:∀b,S b→Sc b){mf:List Nat}(base:Nat){c:Array Value}{co st:Nat}{fl:Bool}{rows rows':List (List AV)}(k:Fa w S ρ c co st fl rows)
 (h1:fl=true→rows'=rows) (h2:fl=false→aX mf rows rows'):Fa w Sc (ρ.via mf base) c co st fl rows':=by
 cases fl with
 |true=>
  rw[h1 rfl]
  exact⟨k.len,k.wide,k.flat,fun i r j x hr hx=>by
   obtain⟨v,k1,k2⟩:=k.cell i r j x hr hx
   exact⟨v,k1,k2.flat (k.flat rfl r (acL hr) x (acL hx))⟩,k.isCell⟩
 |false=>
  have ok:=h2 rfl
  have back:∀r'∈rows',∃i r,rows[i]?=some r∧rows'[i]?=some r':=fun r' hr'=>by
   obtain⟨i,hi,rfl⟩:=acQ.1 hr'
   exact⟨i,_,aa9 (by rw[ok.len];exact hi),aa9 hi⟩
  refine⟨by rw[←ok.len];exact k.len,fun r' hr'=>?_,by simp,fun i r' j x' hr' hx'=>?_,fun r' hr' x' hx'=>?_⟩
  ·obtain⟨i,r,e1,e2⟩:=back r' hr'
   rw[←(ok.row i r r' e1 e2).1];exact k.wide r (acL e1)
  ·have hi:i<rows.length:=by rw[ok.len];exact(acR.1 hr').1
   have e1:rows[i]?=some rows[i]:=aa9 hi
   obtain⟨l,q⟩:=ok.row i _ r' e1 hr'
   have hj:j<rows[i].length:=by rw[l];exact(acR.1 hx').1
   have e2:rows[i][j]?=some rows[i][j]:=aa9 hj
   obtain⟨m1,m2,k1,k2⟩:=q j _ x' e2 hx'
   obtain⟨v,k3,k4⟩:=k.cell i _ j _ e1 e2
   exact⟨v,k3,k1.vr base k2 (k4.monoS hS)⟩
  ·obtain⟨i,r,e1,e2⟩:=back r' hr'
   obtain⟨l,q⟩:=ok.row i r r' e1 e2
   obtain⟨j,hj,rfl⟩:=acQ.1 hx'
   have e3:r[j]?=some (r[j]'(by rw[l];exact hj)):=aa9 _
   obtain⟨m1,m2,k1,k2⟩:=q j _ _ e3 (aa9 hj)
   exact k1.cell (k.isCell r (acL e1) _ (acL e3))
theorem getD_some{m:List Nat}{i base b:Nat}(h:m.getD i base=b)(hb:b≠base):m[i]?=some b:=by
 rw[adQ]at h
 cases hm:m[i]? with
 |none=>rw[hm]at h;simp at h;exact(hb h.symm).elim
 |some b'=>rw[hm]at h;simp at h;rw[h]
theorem yF(H:HR w S ρ g){base:Nat}(hb:ρ base=.fresh)(hS:∀b,S b→Sc b)(hSc:∀b,Sc b→b<w.heap.size){m:List Nat}{cs:List CB}(hnd:m.Nodup)(hlen:cs.length=m.length)
 (hcs:∀(i:Nat) c',cs[i]?=some c'→∃b c,m[i]?=some b∧g b=some c∧Zw m c c')
 (hlive:∀b∈m,∀cb co st sz,ρ b=.pl cb co st sz→¬S cb→¬Sc cb) (hlp:∀b l,ρ b=.lp l→¬Sc l):HR w Sc (ρ.via m base) (hf (cs.map CB.clean)):=by
 have look:∀i cb co st sz,ρ.via m base i=.pl cb co st sz→∃b,m[i]?=some b∧ρ b=.pl cb co st sz:=fun i cb co st sz h=>by
  refine⟨m.getD i base,getD_some rfl (fun e=>?_),h⟩
  unfold Am.via at h;rw[e,hb]at h;cases h
 have lookL:∀i l,ρ.via m base i=.lp l→∃b,m[i]?=some b∧ρ b=.lp l:=fun i l h=>by
  refine⟨m.getD i base,getD_some rfl (fun e=>?_),h⟩
  unfold Am.via at h;rw[e,hb]at h;cases h
 refine⟨fun i cb co st sz h=>?_,fun i h=>?_,fun i i' cb co st sz co' st' sz' h h'=>?_,hSc,fun i l h=>?_,fun i i' l h h'=>?_,fun i l h=>by obtain⟨b,_,hρ⟩:=lookL i l h;exact hlp b l hρ⟩
 ·obtain⟨b,hbi,hρ⟩:=look i cb co st sz h
  obtain⟨c,e,fz,fl,rows,k1,k2,k3,k4⟩:=H.at_ b cb co st sz hρ
  have hi:i<cs.length:=by rw[hlen];exact(acR.1 hbi).1
  obtain⟨b',c0,q1,q2,q3⟩:=hcs i _ (aa9 hi)
  rw[hbi]at q1;cases q1
  have hclean:hf (cs.map CB.clean) i=some (cs[i].clean):=by simp[hf,hi]
  rcases k4 with⟨⟨wr,k4⟩,hnS,hfz⟩|⟨k4,hSb⟩
  ·rw[k4]at q2;cases q2
   generalize cs[i]=ci at q3 hclean
   cases q3 with
   | @live _ _ _ _ rows' a1 a2=>
     exact⟨c,e,fz,fl,rows',k1,k2,k3.ref hS base a1 a2,.inl ⟨⟨false,by rw[hclean];rfl⟩,hlive b (acL hbi) _ _ _ _ hρ hnS,hfz⟩⟩
  ·rw[k4]at q2;cases q2
   generalize cs[i]=ci at q3 hclean
   cases q3 with
   | @frz _ _ _ rows' a1 a2=>exact⟨c,e,fz,fl,rows',k1,k2,k3.ref hS base a1 a2,.inr ⟨by rw[hclean];rfl,hS _ hSb⟩⟩
 ·have hbi:m[i]?=some (m.getD i base):=getD_some rfl (fun e=>by unfold Am.via at h;rw[e,hb]at h;cases h)
  have hi:i<cs.length:=by rw[hlen];exact(acR.1 hbi).1
  obtain⟨b',c0,q1,q2,q3⟩:=hcs i _ (aa9 hi)
  rw[hbi]at q1;cases q1
  rw[H.dead _ h]at q2;cases q2
  have hclean:hf (cs.map CB.clean) i=some (cs[i].clean):=by simp[hf,hi]
  generalize cs[i]=ci at q3 hclean
  cases q3
  rw[hclean];rfl
 ·obtain⟨b,hbi,hρ⟩:=look _ _ _ _ _ h
  obtain⟨b',hbi',hρ'⟩:=look _ _ _ _ _ h'
  have:=H.inj _ _ _ _ _ _ _ _ _ hρ hρ'
  subst this
  have h1:=(acR.1 hbi)
  have h2:=(acR.1 hbi')
  exact(an1 hnd).1 (h1.2.trans h2.2.symm)
 ·obtain⟨b,hbi,hρ⟩:=lookL i l h
  obtain⟨r,ps,asg,body,tmps,st,k1,k2,k3⟩:=H.lps b l hρ
  have hi:i<cs.length:=by rw[hlen];exact(acR.1 hbi).1
  obtain⟨b',c0,q1,q2,q3⟩:=hcs i _ (aa9 hi)
  rw[hbi]at q1;cases q1
  have hclean:hf (cs.map CB.clean) i=some (cs[i].clean):=by simp[hf,hi]
  rw[k2]at q2;cases q2
  generalize cs[i]=ci at q3 hclean
  cases q3 with
  | @lp _ _ _ _ tmps' _ ok=>
    refine⟨r,ps,asg,body,tmps',st,k1,by rw[hclean];rfl,k3.params,k3.assign,k3.body,⟨by rw[←ok.1];exact k3.tmps.1,fun j x v hx hv=>?_⟩,k3.state⟩
    have hj:j<tmps.length:=by rw[ok.1];exact(acR.1 hx).1
    obtain⟨m1,m2,q1,q2⟩:=ok.2 j _ x (aa9 hj) hx
    exact q1.vr base q2 ((k3.tmps.2 j _ v (aa9 hj) hv).monoS hS)
 ·obtain⟨b,hbi,hρ⟩:=lookL _ _ h
  obtain⟨b',hbi',hρ'⟩:=lookL _ _ h'
  have:=H.linj _ _ _ hρ hρ'
  subst this
  have h1:=(acR.1 hbi)
  have h2:=(acR.1 hbi')
  exact(an1 hnd).1 (h1.2.trans h2.2.symm)
end
structure Zi(h0:Aa)(w:World)(S:Nat→Prop)(ρ:Am)(v:AV)(h':Aa)(cv:Value)(w':World)(S':Nat→Prop)(ρ':Am):Prop where
 vr:VR w' S' ρ' v cv
 hr:HR w' S' ρ' (hf h')
 sim:Gv w w' S S' ρ ρ'
 dom:∀b,h'.length≤b→ρ' b=.fresh
 all:∀b,b<h'.length→ρ' b≠.fresh
 len:h0.length≤h'.length
 unw:∀(i:Nat) c c',h0[i]?=some c→h'[i]?=some c'→c.same c'=true→ρ' i=ρ i∧∀cb co st sz,ρ i=.pl cb co st sz→w'.heap[cb]?=w.heap[cb]?
section
variable {P:Program} {w w':World} {S Sc Sc':Nat→Prop} {ρ ρc':Am} {g:HF}
theorem Pv(g:HF):∀(a b:List Ad),Ap g (a++b)=Ap (Ap g a) b:=by
 intro a
 induction a generalizing g with
 |nil=>intro b;rfl
 |cons e a ih=>intro b;simp only[List.cons_append,Ap];exact ih (Bm g e) b
theorem Xg{f:Nat→Nat}:∀{cs:List CB} {base:Nat} {ns:List Ad},Ip f base cs=some ns→∀(g:HF) (b:Nat),
 (¬(base≤b∧b<base+cs.length)→Ap g ns b=g b∧¬Hl ns b)∧(∀j c,cs[j]?=some c→b=base+j→∃c',Gq f c=some c'∧Ap g ns b=some c'∧Ad.new b c'∈ns)
 | [],base,ns,h,g,b=>by
   simp[Ip]at h;subst h
   exact⟨fun _=>⟨rfl,fun⟨e,he,_⟩=>by simp at he⟩,fun j c hc=>by simp at hc⟩
 |c::cs,base,ns,h,g,b=>by
  simp only[Ip,abQ,acI]at h
  obtain⟨c',hc',ns',hns,rfl⟩:=h
  have ih:=Xg hns (Ji g base c') b
  refine⟨fun hn=>?_,fun j d hd hb=>?_⟩
  ·simp at hn
   obtain⟨h1,h2⟩:=ih.1 (by omega)
   simp only[Ap,Bm]
   refine⟨by rw[h1];simp[Ji];intro e;omega,fun⟨e,he,Fe⟩=>?_⟩
   rcases adG.1 he with rfl|he
   ·simp[Ad.id]at Fe;omega
   ·exact h2 ⟨e,he,Fe⟩
  ·cases j with
   |zero=>
    simp at hd hb;subst hd hb
    obtain⟨h1,h2⟩:=ih.1 (by omega)
    refine⟨c',hc',?_,adJ ..⟩
    simp only[Ap,Bm];rw[h1];simp[Ji]
   |succ j=>
    simp at hd
    obtain⟨c2,h3,h4,h5⟩:=ih.2 j d hd (by omega)
    exact⟨c2,h3,by simp only[Ap,Bm];exact h4,acV _ h5⟩
theorem Wx{f:Nat→Nat}:∀{m:List Nat} {cs₀ cs:List CB} {ps:List Ad},Ht f m cs₀ cs=some ps→m.Nodup→∀(g:HF) (b:Nat),
 (b∉m→Ap g ps b=g b∧¬Hl ps b)∧(∀(j:Nat) c₀ c,m[j]?=some b→cs₀[j]?=some c₀→cs[j]?=some c→(c₀.same c=true∧Ap g ps b=g b∧¬Hl ps b)∨
   (c₀.same c=false∧c.unw=false∧c₀.isLive=true∧∃c',Gq f c=some c'∧Ap g ps b=some c'∧Ad.put b c'∈ps))
 | [],[],[],ps,h,_,g,b=>by
   simp[Ht]at h;subst h
   exact⟨fun _=>⟨rfl,fun⟨e,he,_⟩=>by simp at he⟩,fun j c c' hm=>by simp at hm⟩
 |a::m,c₀::cs₀,c::cs,ps,h,hnd,g,b=>by
  have hnd':=(List.nodup_cons.1 hnd)
  unfold Ht at h
  cases hs:c₀.same c with
  |true=>
   rw[hs]at h
   simp only[cond_true]at h
   have ih:=Wx h hnd'.2 g b
   refine⟨fun hn=>ih.1 (fun e=>hn (acV _ e)),fun j d d' hj hd hd'=>?_⟩
   cases j with
   |zero=>
    simp at hj hd hd';subst hj hd hd'
    exact .inl ⟨hs,ih.1 hnd'.1⟩
   |succ j=>simp at hj hd hd';exact ih.2 j d d' hj hd hd'
  |false=>
   rw[hs]at h
   simp only[cond_false]at h
   cases hu:(c.unw|| !c₀.isLive)with
   |true=>rw[hu]at h;simp at h
   |false=>
    rw[hu]at h
    have hu1:c.unw=false:=by simp at hu;exact hu.1
    have hu2:c₀.isLive=true:=by simp at hu;exact hu.2
    simp only[cond_false,abQ,acI]at h
    obtain⟨c',hc',ps',hps,rfl⟩:=h
    have ih:=Wx hps hnd'.2 (Ji g a c') b
    refine⟨fun hn=>?_,fun j d d' hj hd hd'=>?_⟩
    ·simp at hn
     obtain⟨h1,h2⟩:=ih.1 hn.2
     simp only[Ap,Bm]
     refine⟨by rw[h1];simp[Ji,hn.1],fun⟨e,he,Fe⟩=>?_⟩
     rcases adG.1 he with rfl|he
     ·simp[Ad.id]at Fe;exact hn.1 Fe.symm
     ·exact h2 ⟨e,he,Fe⟩
    ·cases j with
     |zero=>
      simp at hj hd hd';subst hj hd hd'
      obtain⟨h1,h2⟩:=ih.1 hnd'.1
      refine .inr ⟨hs,hu1,hu2,c',hc',?_,adJ ..⟩
      simp only[Ap,Bm];rw[h1];simp[Ji]
     |succ j=>
      simp at hj hd hd'
      have hab:b≠a:=fun e=>hnd'.1 (e▸acL hj)
      rcases ih.2 j d d' hj hd hd' with⟨k1,k2,k3⟩|⟨k1,k2,k6,c2,k3,k4,k5⟩
      ·refine .inl ⟨k1,by simp only[Ap,Bm];rw[k2];simp[Ji,hab],fun⟨e,he,Fe⟩=>?_⟩
       rcases adG.1 he with rfl|he
       ·simp[Ad.id]at Fe;exact hab Fe.symm
       ·exact k3 ⟨e,he,Fe⟩
      ·exact .inr ⟨k1,k2,k6,c2,k3,by simp only[Ap,Bm];exact k4,acV _ k5⟩
 | [],[],_::_,ps,h,_,g,b=>by simp[Ht]at h
 | [],_::_,_,ps,h,_,g,b=>by simp[Ht]at h
 |_::_,[],_,ps,h,_,g,b=>by simp[Ht]at h
 |_::_,_::_,[],ps,h,_,g,b=>by simp[Ht]at h
theorem Ee(g0:HF):∀(l:List Nat) (g:HF) (b:Nat),
 ((b∉l∨∀st fl wr rows,g0 b≠some (.live st fl wr rows))→Ap g (Dt g0 l) b=g b∧¬Hl (Dt g0 l) b)∧
 (b∈l→∀st fl wr rows,g0 b=some (.live st fl wr rows)→Ap g (Dt g0 l) b=some (.frz st fl rows))
 | [],g,b=>⟨fun _=>⟨rfl,fun⟨e,he,_⟩=>by simp[Dt]at he⟩,fun h=>by simp at h⟩
 |a::l,g,b=>by
  unfold Dt
  split
  ·rename_i st0 fl0 wr0 rows0 ha
   have ih:=Ee g0 l (Ji g a (.frz st0 fl0 rows0)) b
   refine⟨fun h=>?_,fun h st fl wr rows hb=>?_⟩
   ·have hab:b≠a:=fun e=>by
     rcases h with h|h
     ·exact h (e▸adJ ..)
     ·exact h _ _ _ _ (e▸ha)
    obtain⟨k1,k2⟩:=ih.1 (h.imp (fun h e=>h (acV _ e)) id)
    refine⟨by simp only[Ap,Bm];rw[k1];simp[Ji,hab],fun⟨e,he,Fe⟩=>?_⟩
    rcases adG.1 he with rfl|he
    ·simp[Ad.id]at Fe;exact hab Fe.symm
    ·exact k2 ⟨e,he,Fe⟩
   ·simp only[Ap,Bm]
    by_cases hbl:b∈l
    ·exact ih.2 hbl st fl wr rows hb
    ·have hab:b=a:=by rcases adG.1 h with h|h;exact h;exact(hbl h).elim
     subst hab
     rw[(ih.1 (.inl hbl)).1]
     rw[ha]at hb;cases hb
     simp[Ji]
  ·rename_i hna
   have ih:=Ee g0 l g b
   refine⟨fun h=>ih.1 (h.imp (fun h e=>h (acV _ e)) id),fun h st fl wr rows hb=>?_⟩
   have hab:b≠a:=fun e=>hna _ _ _ _ (e▸hb)
   exact ih.2 (by rcases adG.1 h with h|h;exact(hab h).elim;exact h) st fl wr rows hb
theorem Fa.ren{ρ':Am}{S':Nat→Prop}{f:Nat→Nat}(hf:∀b,ρc' b≠.fresh→ρ' (f b)=ρc' b){c:Array Value}{co st:Nat}{fl:Bool}{rows rows':List (List AV)}(k:Fa w' Sc' ρc' c co st fl rows)
 (h1:fl=true→rows'=rows) (h2:fl=false→As (As (Ci 8 f)) rows=some rows')
 (hV:∀r∈rows',∀x∈r,∀v,VR w' Sc' ρ' x v→VR w' S' ρ' x v):Fa w' S' ρ' c co st fl rows':=by
 cases fl with
 |true=>
  rw[h1 rfl]
  exact⟨k.len,k.wide,k.flat,fun i r j x hr hx=>by
   obtain⟨v,k1,k2⟩:=k.cell i r j x hr hx
   exact⟨v,k1,k2.flat (k.flat rfl r (acL hr) x (acL hx))⟩,k.isCell⟩
 |false=>
  obtain⟨o1,o2⟩:=Ei (h2 rfl)
  have back:∀r'∈rows',∃r,r∈rows∧As (Ci 8 f) r=some r':=fun r' hr'=>by
   obtain⟨i,hi,rfl⟩:=acQ.1 hr'
   obtain⟨r,q1,q2⟩:=o2 i _ (aa9 hi)
   exact⟨r,acL q1,q2⟩
  refine⟨by rw[←o1];exact k.len,fun r' hr'=>?_,by simp,fun i r' j x' hr' hx'=>?_,fun r' hr' x' hx'=>?_⟩
  ·obtain⟨r,q1,q2⟩:=back r' hr'
   rw[←(Ei q2).1];exact k.wide r q1
  ·obtain⟨r,q1,q2⟩:=o2 i r' hr'
   obtain⟨p1,p2⟩:=Ei q2
   obtain⟨x,p3,p4⟩:=p2 j x' hx'
   obtain⟨v,k1,k2⟩:=k.cell i r j x q1 p3
   exact⟨v,k1,hV r' (acL hr') x' (acL hx') v (VR.ren hf p4 k2)⟩
  ·obtain⟨r,q1,q2⟩:=back r' hr'
   obtain⟨p1,p2⟩:=Ei q2
   obtain⟨j,hj,rfl⟩:=acQ.1 hx'
   obtain⟨x,p3,p4⟩:=p2 j _ (aa9 hj)
   exact uD p4 (k.isCell r q1 x (acL p3))
theorem arC{ρ':Am}{S':Nat→Prop}{f:Nat→Nat}(hf':∀b,ρc' b≠.fresh→ρ' (f b)=ρc' b){h':Aa}(Hc:HR w' Sc' ρc' (hf h')){i cb co st sz:Nat}(hi:ρc' i=.pl cb co st sz){c c':CB}
 (hc:h'[i]?=some c) (hr:Gq f c=some c') (hV:∀x v,(c'.hasImm=false→x.flat=true∨hasImm 8 x=false)→VR w' Sc' ρ' x v→VR w' S' ρ' x v) (hS':S' cb↔Sc' cb):
 ∃(ca:Array Value) (e:TypeId) (fz:Nat × Nat) (fl:Bool) (rows:List (List AV)),w'.heap[cb]?=some (.cells ca e fz)∧ca.size=sz∧Fa w' S' ρ' ca co st fl rows∧
 (((∃wr,some c'=some (.live st fl wr rows))∧¬S' cb∧∀o,o<sz→¬(fz.1≤o∧o<fz.2))∨(some c'=some (.frz st fl rows)∧S' cb)):=by
 obtain⟨ca,e,fz,fl,rows,k1,k2,k3,k4⟩:=Hc.at_ i cb co st sz hi
 have hc':hf h' i=some c:=hc
 rcases k4 with⟨⟨wr,k4⟩,hnS,hfz⟩|⟨k4,hSb⟩
 ·rw[hc']at k4;cases k4
  cases fl with
  |true=>
   simp[Gq]at hr;subst hr
   exact⟨ca,e,fz,true,rows,k1,k2,k3.ren hf' (fun _=>rfl) (by simp) (fun r hr x hx v hv=>hv.flat (k3.flat rfl r hr x hx)),.inl ⟨⟨wr,rfl⟩,fun h=>hnS (hS'.1 h),hfz⟩⟩
  |false=>
   obtain⟨rows',ho,rfl⟩:=acI.1 hr
   refine⟨ca,e,fz,false,rows',k1,k2,k3.ren hf' (by simp) (fun _=>ho) (fun r hr x hx v hv=>hV x v (fun hni=>.inr ?_) hv),.inl ⟨⟨wr,rfl⟩,fun h=>hnS (hS'.1 h),hfz⟩⟩
   simp only[CB.hasImm,adP]at hni
   have:=hni r hr
   simp only[aj1,not_exists,not_and]at this
   simpa using this x hx
 ·rw[hc']at k4;cases k4
  cases fl with
  |true=>
   simp[Gq]at hr;subst hr
   exact⟨ca,e,fz,true,rows,k1,k2,k3.ren hf' (fun _=>rfl) (by simp) (fun r hr x hx v hv=>hv.flat (k3.flat rfl r hr x hx)),.inr ⟨rfl,hS'.2 hSb⟩⟩
  |false=>
   obtain⟨rows',ho,rfl⟩:=acI.1 hr
   refine⟨ca,e,fz,false,rows',k1,k2,k3.ren hf' (by simp) (fun _=>ho) (fun r hr x hx v hv=>hV x v (fun hni=>.inr ?_) hv),.inr ⟨rfl,hS'.2 hSb⟩⟩
   simp only[CB.hasImm,adP]at hni
   have:=hni r hr
   simp only[aj1,not_exists,not_and]at this
   simpa using this x hx
theorem asE{ρ':Am}{S':Nat→Prop}{f:Nat→Nat}(hf':∀b,ρc' b≠.fresh→ρ' (f b)=ρc' b){h':Aa}(Hc:HR w' Sc' ρc' (hf h')){i l:Nat}(hi:ρc' i=.lp l){c c':CB}
 (hc:h'[i]?=some c) (hr:Gq f c=some c') (hV:∀x v,(c'.hasImm=false→x.flat=true∨hasImm 8 x=false)→VR w' Sc' ρ' x v→VR w' S' ρ' x v):
 ∃(r:Loop) (ps:List Nat) (asg body:Code) (tmps:List AV) (st:Qb),w'.heap[l]?=some (.loop r)∧some c'=some (.lp ps asg body tmps st)∧jW w' S' ρ' r ps asg body tmps st:=by
 obtain⟨r,ps,asg,body,tmps,st,k1,k2,k3⟩:=Hc.lps i l hi
 have hc':hf h' i=some c:=hc
 rw[hc']at k2;cases k2
 obtain⟨tmps',ho,rfl⟩:=acI.1 hr
 obtain⟨o1,o2⟩:=Ei ho
 refine⟨r,ps,asg,body,tmps',st,k1,rfl,k3.params,k3.assign,k3.body,⟨by rw[←o1];exact k3.tmps.1,fun j x v hx hv=>?_⟩,k3.state⟩
 obtain⟨x0,q1,q2⟩:=o2 j x hx
 refine hV x v (fun hni=>.inr ?_) (VR.ren hf' q2 (k3.tmps.2 j x0 v q1 hv))
 simp only[CB.hasImm,adP]at hni
 simpa using hni x (acL hx)
end
section
variable {P:Program} {w w':World} {S Sc Sc':Nat→Prop} {ρ ρc':Am} {g:HF}
def acX(ρ:Am)(lent:List Nat)(b:Nat):Prop:=∃id∈lent,∃co st sz,ρ id=.pl b co st sz
theorem pL(H:HR w S ρ g){base:Nat}{z:Nat}(hbf:ρ z=.fresh){m lent:List Nat}{cs:List CB}(hnd:m.Nodup)(hlen:cs.length=m.length)
 (hcs:∀(i:Nat) c',cs[i]?=some c'→∃b c,m[i]?=some b∧g b=some c∧Zw m c c')
 (hmb:∀b∈m,b<base) (hlm:∀b∈lent,b∉m) (hmf:∀b∈m,ρ b≠.fresh) (hlf:∀b∈lent,ρ b≠.fresh) {out:Ea} {h':Aa} {cv:Value} (CP:Zi (cs.map CB.clean) w (fun b=>S b∨acX ρ lent b) (ρ.via m z) out.v h' cv w' Sc' ρc') (hnew:∀b,base≤b→b<base+(h'.length-m.length)→ρ b=.fresh) {d:Le}
 (hu:Lm g base lent m cs out h'=some d):
 ∃S' ρ',VR w' S' ρ' d.out.v cv∧HR w' S' ρ' (Ap g d.es)∧Gv w w' S S' ρ ρ'∧Wb (Hl d.es) w w' ρ ρ'∧Xv d.es ρ ρ':=by
 unfold Lm at hu
 simp only[abQ]at hu
 obtain⟨v,hv,ps,hps,ns,hns,hu⟩:=hu
 generalize hcc:(lent.isEmpty|| !(hasImm 8 v||(ps++ns).any Ad.hasImm))=cc at hu
 simp only[adL.injEq]at hu
 subst hu
 have hkl:m.length≤h'.length:=by have:=CP.len;simpa [hlen]using this
 have htl:(h'.take m.length).length=m.length:=by simp;omega
 let ρ':Am:=fun id=>match m.idxOf? id with
  |some j=>ρc' j
  |none=>if base≤id∧id<base+(h'.length-m.length)then ρc' (m.length+(id-base))else ρ id
 have rm:∀j b,m[j]?=some b→ρ' b=ρc' j:=fun j b hj=>by
  have hmem:b∈m:=acL hj
  cases hi:m.idxOf? b with
  |none=>exact(aj0.1 hi hmem).elim
  |some j'=>
   obtain⟨h1,h2,_⟩:=aoO.1 hi
   have h3:=acR.1 hj
   have:j'=j:=(an1 hnd).1 (h2.trans h3.2.symm)
   show(match m.idxOf? b with|some j=>ρc' j|none=>_)=_
   rw[hi,this]
 have rn:∀b,(base≤b∧b<base+(h'.length-m.length))→ρ' b=ρc' (m.length+(b-base)):=fun b hb=>by
  have:m.idxOf? b=none:=aj0.2 (fun h=>by have:=hmb b h;omega)
  show(match m.idxOf? b with|some j=>ρc' j|none=>_)=_
  rw[this];simp[hb]
 have ro:∀b,b∉m→¬(base≤b∧b<base+(h'.length-m.length))→ρ' b=ρ b:=fun b hb hlt=>by
  have:m.idxOf? b=none:=aj0.2 hb
  show(match m.idxOf? b with|some j=>ρc' j|none=>_)=_
  rw[this];simp only;rw[if_neg hlt]
 have via:∀j b,m[j]?=some b→ρ.via m z j=ρ b:=fun j b hj=>Am.via_at (adK _) hj
 have viaAt:∀j cb co st sz,ρ.via m z j=.pl cb co st sz→∃b,m[j]?=some b∧ρ b=.pl cb co st sz:=fun i cb co st sz h=>by
  refine⟨m.getD i z,getD_some rfl (fun e=>?_),h⟩
  unfold Am.via at h;rw[e,hbf]at h;cases h
 have viaL:∀j l,ρ.via m z j=.lp l→∃b,m[j]?=some b∧ρ b=.lp l:=fun i l h=>by
  refine⟨m.getD i z,getD_some rfl (fun e=>?_),h⟩
  unfold Am.via at h;rw[e,hbf]at h;cases h
 have hcl:∀i,ρc' i≠.fresh→i<h'.length:=fun i hi=>by
  rcases adO i h'.length with h1|h1
  ·exact h1
  ·exact(hi (CP.dom _ h1)).elim
 have hren:∀i,ρc' i≠.fresh→ρ' (Fq m base i)=ρc' i:=fun i hif=>by
  have:=hcl i hif
  unfold Fq
  by_cases hi:i<m.length
  ·rw[if_pos hi]
   exact rm i _ (by rw[adQ,aa9 hi];rfl)
  ·rw[if_neg hi,rn _ (by omega)];congr 1;omega
 have priv:∀id cb co st sz,ρ id=.pl cb co st sz→id∉m→(∀i co st sz,ρ.via m z i≠.pl cb co st sz)∧w'.heap[cb]?=w.heap[cb]?:=fun id cb co st sz h hn=>by
  have h1:∀i co st sz,ρ.via m z i≠.pl cb co st sz:=fun i co' st' sz' e=>by
   obtain⟨b,hb1,hb2⟩:=viaAt _ _ _ _ _ e
   exact hn ((H.inj _ _ _ _ _ _ _ _ _ h hb2)▸acL hb1)
  refine⟨h1,CP.sim.other cb (H.lt h) h1 (fun i e=>?_)⟩
  obtain⟨b,_,hb2⟩:=viaL _ _ e
  obtain⟨_,_,_,_,_,_,q1,_⟩:=H.lps _ _ hb2
  obtain⟨_,_,_,_,_,q2,_⟩:=H.at_ _ _ _ _ _ h
  rw[q1]at q2;cases q2
 have privL:∀id l,ρ id=.lp l→id∉m→(∀i,ρ.via m z i≠.lp l)∧w'.heap[l]?=w.heap[l]?:=fun id l h hn=>by
  have h1:∀i,ρ.via m z i≠.lp l:=fun i e=>by
   obtain⟨b,hb1,hb2⟩:=viaL _ _ e
   exact hn ((H.linj _ _ _ h hb2)▸acL hb1)
  obtain⟨_,_,_,_,_,_,q1,_⟩:=H.lps _ _ h
  refine⟨h1,CP.sim.other l (ae4.1 q1).1 (fun i co st sz e=>?_) h1⟩
  obtain⟨b,_,hb2⟩:=viaAt _ _ _ _ _ e
  obtain⟨_,_,_,_,_,q2,_⟩:=H.at_ _ _ _ _ _ hb2
  rw[q1]at q2;cases q2
 have notcL:∀id l,ρ id=.lp l→id∉m→∀i,ρc' i≠.lp l:=fun id l h hn i e=>by
  rcases CP.sim.lrng i l e with h1|⟨i',h1⟩
  ·obtain⟨_,_,_,_,_,_,q1,_⟩:=H.lps _ _ h
   have:=(ae4.1 q1).1;omega
  ·exact(privL id l h hn).1 _ h1
 have notc:∀id cb co st sz,ρ id=.pl cb co st sz→id∉m→∀i co' st' sz',ρc' i≠.pl cb co' st' sz':=fun id cb co st sz h hn i co' st' sz' e=>by
  rcases CP.sim.rng i cb co' st' sz' e with h1|⟨i',co2,st2,sz2,h1⟩
  ·have:=H.lt h;omega
  ·exact(priv id cb co st sz h hn).1 _ _ _ _ h1
 let S':Nat→Prop:=fun b=>Sc' b∧(cc=false∨S b∨¬acX ρ lent b)
 have hSS':∀b,S b→S' b:=fun b hb=>⟨CP.sim.sub b (.inl hb),.inr (.inl hb)⟩
 have hle:ρ.le ρ':=fun b=>by
  by_cases hb:base≤b∧b<base+(h'.length-m.length)
  ·exact .inl (hnew b hb.1 hb.2)
  ·by_cases hm:b∈m
   ·obtain⟨j,hj,rfl⟩:=acQ.1 hm
    have hj':m[j]?=some m[j]:=aa9 hj
    have:=CP.sim.le j
    rw[via j _ hj']at this
    rw[rm j _ hj'];exact this
   ·exact .inr (.inl (ro b hm hb))
 have hsim:Gv w w' S S' ρ ρ':=by
  refine⟨CP.sim.size,CP.sim.os,CP.sim.tape,CP.sim.output,fun b hb=>CP.sim.keep b (.inl hb),hSS',hle,fun b hb hn hl=>CP.sim.other b hb (fun i co st sz e=>?_) (fun i e=>?_),fun id cb co st sz e=>?_,fun b hb=>?_,CP.sim.objs,CP.sim.loops,fun id l e=>?_⟩
  ·obtain⟨b',_,hb2⟩:=viaAt _ _ _ _ _ e;exact hn _ _ _ _ hb2
  ·obtain⟨b',_,hb2⟩:=viaL _ _ e;exact hl _ hb2
  ·by_cases hb:base≤id∧id<base+(h'.length-m.length)
   ·rw[rn id hb]at e
    rcases CP.sim.rng _ _ _ _ _ e with h1|⟨i',co2,st2,sz2,h1⟩
    ·exact .inl h1
    ·obtain⟨b',_,hb2⟩:=viaAt _ _ _ _ _ h1;exact .inr ⟨_,_,_,_,hb2⟩
   ·by_cases hm:id∈m
    ·obtain⟨j,hj,rfl⟩:=acQ.1 hm
     rw[rm j _ (aa9 hj)]at e
     rcases CP.sim.rng _ _ _ _ _ e with h1|⟨i',co2,st2,sz2,h1⟩
     ·exact .inl h1
     ·obtain⟨b',_,hb2⟩:=viaAt _ _ _ _ _ h1;exact .inr ⟨_,_,_,_,hb2⟩
    ·rw[ro id hm hb]at e;exact .inr ⟨_,_,_,_,e⟩
  ·rcases CP.sim.grow b hb.1 with(h1|⟨id,_,co,st,sz,h1⟩)|h1|⟨i,co,st,sz,h1⟩
   ·exact .inl h1
   ·exact .inr (.inr ⟨_,_,_,_,h1⟩)
   ·exact .inr (.inl h1)
   ·obtain⟨b',_,hb2⟩:=viaAt _ _ _ _ _ h1;exact .inr (.inr ⟨_,_,_,_,hb2⟩)
  ·by_cases hb:base≤id∧id<base+(h'.length-m.length)
   ·rw[rn id hb]at e
    rcases CP.sim.lrng _ _ e with h1|⟨i',h1⟩
    ·exact .inl h1
    ·obtain⟨b',_,hb2⟩:=viaL _ _ h1;exact .inr ⟨_,hb2⟩
   ·by_cases hm:id∈m
    ·obtain⟨j,hj,rfl⟩:=acQ.1 hm
     rw[rm j _ (aa9 hj)]at e
     rcases CP.sim.lrng _ _ e with h1|⟨i',h1⟩
     ·exact .inl h1
     ·obtain⟨b',_,hb2⟩:=viaL _ _ h1;exact .inr ⟨_,hb2⟩
    ·rw[ro id hm hb]at e;exact .inr ⟨_,e⟩
 have hV:∀(x:AV) (u:Value),(cc=true→lent≠[]→x.flat=true∨hasImm 8 x=false)→VR w' Sc' ρ' x u→VR w' S' ρ' x u:=fun x u hx hvr=>by
  cases hc:cc with
  |false=>exact hvr.monoS (fun b hb=>⟨hb,.inl hc⟩)
  |true=>
   by_cases hl:lent=[]
   ·exact hvr.monoS (fun b hb=>⟨hb,.inr (.inr (fun⟨id,Fe,_⟩=>by rw[hl]at Fe;simp at Fe))⟩)
   ·rcases hx hc hl with h|h
    ·exact hvr.flat h
    ·exact VR.noImm h hvr
 have himm:cc=true→lent≠[]→hasImm 8 v=false∧∀e∈ps++ns,e.hasImm=false:=fun hc hl=>by
  rw[hc]at hcc
  have hle':lent.isEmpty=false:=by simpa using hl
  rw[hle']at hcc
  simp only[Bool.false_or,Bool.not_eq_true',aoN,adP]at hcc
  exact⟨hcc.1,fun e he=>by simpa using hcc.2 e he⟩
 have hSc:∀i cb co st sz,ρc' i=.pl cb co st sz→(S' cb↔Sc' cb):=fun i cb co st sz hi=>by
  refine⟨fun h=>h.1,fun h=>⟨h,.inr (.inr fun⟨id,Fe,co',st',sz',hρ⟩=>?_)⟩⟩
  exact notc id cb _ _ _ hρ (hlm id Fe) _ _ _ _ hi
 generalize hfz:(if cc=true then([]:List Ad)else Dt g lent)=fz
 have g1:∀b,b∉lent→Ap g fz b=g b∧¬Hl fz b:=fun b hb=>by
  rw[←hfz]
  split
  ·exact⟨rfl,fun⟨e,he,_⟩=>by simp at he⟩
  ·exact(Ee g lent g b).1 (.inl hb)
 have P1:=fun b=>Wx hps hnd (Ap g fz) b
 have N1:=fun b=>Xg hns (Ap (Ap g fz) ps) b
 have hes:Ap g (fz++ps++ns)=Ap (Ap (Ap g fz) ps) ns:=by rw[Pv,Pv]
 have eid:∀b,¬Hl fz b→¬Hl ps b→¬Hl ns b→¬Hl (fz++ps++ns) b:=fun b h1 h2 h3 ⟨e,he,Fe⟩=>by
  rcases ak9.1 he with he|he
  ·rcases ak9.1 he with he|he
   ·exact h1 ⟨e,he,Fe⟩
   ·exact h2 ⟨e,he,Fe⟩
  ·exact h3 ⟨e,he,Fe⟩
 have inr:∀b,¬(base≤b∧b<base+(h'.length-m.length))→Ap (Ap (Ap g fz) ps) ns b=Ap (Ap g fz) ps b∧¬Hl ns b:=fun b hb=>(N1 b).1 (by simpa using hb)
 have both:∀j b,m[j]?=some b→∃(c₀ c:CB),cs[j]?=some c₀∧h'[j]?=some c∧((c₀.same c=true∧Ap g (fz++ps++ns) b=g b∧¬Hl (fz++ps++ns) b∧ρ' b=ρ b∧∀cb co st sz,ρ b=.pl cb co st sz→w'.heap[cb]?=w.heap[cb]?)∨
  (∃c',Gq (Fq m base) c=some c'∧Ap g (fz++ps++ns) b=some c'∧Ad.put b c'∈ps)):=fun j b hj=>by
  have hjl:j<m.length:=(acR.1 hj).1
  have hc0:cs[j]?=some (cs[j]'(by omega)):=aa9 _
  have hc1:h'[j]?=some (h'[j]'(by omega)):=aa9 _
  have hc2:(h'.take m.length)[j]?=some (h'[j]'(by omega)):=by rw[aoL,if_pos hjl];exact hc1
  have hbl:b∉lent:=fun h=>hlm b h (acL hj)
  have hbb:¬(base≤b∧b<base+(h'.length-m.length)):=by have:=hmb b (acL hj);omega
  refine⟨_,_,hc0,hc1,?_⟩
  rcases(P1 b).2 j _ _ hj hc0 hc2 with⟨k1,k2,k3⟩|⟨k1,k2,k6,c',k3,k4,k5⟩
  ·left
   have hcl:(cs.map CB.clean)[j]?=some (CB.clean (cs[j]'(by omega))):=by simp[hc0]
   have hsm:(CB.clean (cs[j]'(by omega))).same (h'[j]'(by omega))=true:=by
    generalize(cs[j]'(by omega))=x at k1 ⊢
    generalize(h'[j]'(by omega))=y at k1 ⊢
    cases x<;>cases y<;>first|exact k1|(simp only[CB.clean];exact k1)
   obtain⟨u1,u2⟩:=CP.unw j _ _ hcl hc1 hsm
   refine⟨k1,by rw[hes,(inr b hbb).1,k2,(g1 b hbl).1],eid b (g1 b hbl).2 k3 (inr b hbb).2,by rw[rm j b hj,u1,via j b hj],fun cb co st sz h=>u2 cb co st sz (by rw[via j b hj];exact h)⟩
  ·right
   exact⟨c',k3,by rw[hes,(inr b hbb).1,k4],k5⟩
 have fresh1:∀b,base≤b→∀c,h'[m.length+(b-base)]?=some c→∃c',Gq (Fq m base) c=some c'∧Ap g (fz++ps++ns) b=some c'∧Ad.new b c'∈ns:=fun b hb c hc=>by
  obtain⟨c',k1,k2,k3⟩:=(N1 b).2 (b-base) c (by rw[alO];exact hc) (by omega)
  exact⟨c',k1,by rw[hes];exact k2,k3⟩
 have other:∀b,b∉m→¬(base≤b∧b<base+(h'.length-m.length))→Ap g (fz++ps++ns) b=Ap g fz b∧¬Hl ps b∧¬Hl ns b:=fun b hb hlt=>by
  obtain⟨k1,k2⟩:=(P1 b).1 hb
  exact⟨by rw[hes,(inr b hlt).1,k1],k2,(inr b hlt).2⟩
 have at1:∀i c c' cb co st sz,h'[i]?=some c→Gq (Fq m base) c=some c'→(∃e∈ps++ns,e.hasImm=c'.hasImm)→ρc' i=.pl cb co st sz→_:=fun i c c' cb co st sz hc hr he hi=>
  arC (S':=S') hren CP.hr hi hc hr (fun x u hx hvr=>hV x u (fun h1 h2=>hx (by obtain⟨e,he1,he2⟩:=he;rw[←he2];exact(himm h1 h2).2 e he1)) hvr) (hSc i cb co st sz hi)
 have at1L:∀i c c' l,h'[i]?=some c→Gq (Fq m base) c=some c'→(∃e∈ps++ns,e.hasImm=c'.hasImm)→ρc' i=.lp l→_:=fun i c c' l hc hr he hi=>
  asE (S':=S') hren CP.hr hi hc hr (fun x u hx hvr=>hV x u (fun h1 h2=>hx (by obtain⟨e,he1,he2⟩:=he;rw[←he2];exact(himm h1 h2).2 e he1)) hvr)
 have outv:(out.map fun _=>v).v=v:=by cases out<;>rfl
 refine⟨S',ρ',?_,?_,hsim,?_,fun b=>?_⟩
 ·rw[outv]
  exact hV v cv (fun h1 h2=>.inr (himm h1 h2).1) (VR.ren hren hv CP.vr)
 ·refine⟨fun id cb co st sz h=>?_,fun id h=>?_,fun a b cb co st sz co' st' sz' ha hb=>?_,fun b hb=>CP.hr.old b hb.1,fun id l h=>?_,fun a b l ha hb=>?_,fun id l h hs=>?_⟩
  ·show ∃c e fz' fl rows,_∧_∧_∧(((∃wr,Ap g (fz++ps++ns) id=_)∧_)∨(Ap g (fz++ps++ns) id=_∧_))
   by_cases hb:base≤id∧id<base+(h'.length-m.length)
   ·rw[rn id hb]at h
    have hlt:m.length+(id-base)<h'.length:=by omega
    obtain⟨c',k1,k2,k3⟩:=fresh1 id hb.1 _ (aa9 hlt)
    rw[k2]
    exact at1 _ _ _ _ _ _ _ (aa9 hlt) k1 ⟨_,aeY _ k3,rfl⟩ h
   ·by_cases hm:id∈m
    ·obtain⟨j,hj,rfl⟩:=acQ.1 hm
     have hj':m[j]?=some m[j]:=aa9 hj
     obtain⟨c₀,c,q1,q2,q3⟩:=both j _ hj'
     rcases q3 with⟨k0,k1,_,k2,k3⟩|⟨c',k1,k2,k3⟩
     ·rw[k2]at h
      obtain⟨ca,e,fz',fl,rows,a1,a2,a3,a4⟩:=H.at_ _ _ _ _ _ h
      refine⟨ca,e,fz',fl,rows,by rw[k3 _ _ _ _ h];exact a1,a2,a3.sim hsim,?_⟩
      rw[k1]
      rcases a4 with⟨⟨wr,a4⟩,a5,a6⟩|⟨a4,a5⟩
      ·refine .inl ⟨⟨wr,a4⟩,fun hs=>?_,a6⟩
       rcases CP.sim.grow cb hs.1 with(h1|⟨id,Fe,co2,st2,sz2,h1⟩)|h1|⟨i,co2,st2,sz2,h1⟩
       ·exact a5 h1
       ·have:=H.inj _ _ _ _ _ _ _ _ _ h h1
        exact hlm id Fe (this▸hm)
       ·have:=H.lt h;omega
       ·
        obtain⟨_,_,_,_,_,_,_,_,b4⟩:=CP.hr.at_ j cb co st sz (by rw[←rm j _ hj',k2];exact h)
        rcases b4 with⟨_,b5,_⟩|⟨b4,b5⟩
        ·exact b5 hs.1
        ·obtain⟨b',c2,r1,r2,r3⟩:=hcs j c₀ q1
         rw[hj']at r1;cases r1
         rw[a4]at r2;cases r2
         have b4':h'[j]?=some _:=b4
         rw[q2]at b4';cases b4'
         cases r3
         simp[CB.same]at k0
      ·exact .inr ⟨a4,hSS' _ a5⟩
     ·rw[rm j _ hj']at h
      rw[k2]
      exact at1 _ _ _ _ _ _ _ q2 k1 ⟨_,ajX _ k3,rfl⟩ h
    ·rw[ro id hm hb]at h
     obtain⟨ca,e,fz',fl,rows,a1,a2,a3,a4⟩:=H.at_ _ _ _ _ _ h
     obtain⟨p1,p2⟩:=priv id cb co st sz h hm
     have hoth:=(other id hm hb).1
     refine⟨ca,e,fz',fl,rows,by rw[p2];exact a1,a2,a3.sim hsim,?_⟩
     rw[hoth]
     rcases a4 with⟨⟨wr,a4⟩,a5,a6⟩|⟨a4,a5⟩
     ·by_cases hl:id∈lent
      ·have hlent:acX ρ lent cb:=⟨id,hl,co,st,sz,h⟩
       cases hc:cc with
       |false=>
        right
        refine⟨?_,CP.sim.sub cb (.inr hlent),.inl hc⟩
        rw[←hfz,hc]
        exact(Ee g lent g id).2 hl _ _ _ _ a4
       |true=>
        left
        refine⟨⟨wr,by rw[←hfz,hc];exact a4⟩,fun hs=>?_,a6⟩
        rcases hs.2 with h1|h1|h1
        ·rw[hc]at h1;cases h1
        ·exact a5 h1
        ·exact h1 hlent
      ·left
       refine⟨⟨wr,by rw[(g1 id hl).1];exact a4⟩,fun hs=>?_,a6⟩
       rcases CP.sim.grow cb hs.1 with(h1|⟨id',Fe,co2,st2,sz2,h1⟩)|h1|⟨i,co2,st2,sz2,h1⟩
       ·exact a5 h1
       ·exact hl ((H.inj _ _ _ _ _ _ _ _ _ h h1)▸Fe)
       ·have:=H.lt h;omega
       ·exact p1 _ _ _ _ h1
     ·right
      refine⟨?_,hSS' _ a5⟩
      rw[←hfz]
      split
      ·exact a4
      ·rw[((Ee g lent g id).1 (.inr (fun st fl wr rows e=>by rw[a4]at e;cases e))).1];exact a4
  ·show Ap g (fz++ps++ns) id=_
   by_cases hb:base≤id∧id<base+(h'.length-m.length)
   ·rw[rn id hb]at h
    have h2:=CP.hr.dead _ h
    obtain⟨c',k1,k2,k3⟩:=fresh1 id hb.1 _ h2
    simp[Gq]at k1;subst k1;exact k2
   ·by_cases hm:id∈m
    ·obtain⟨j,hj,rfl⟩:=acQ.1 hm
     have hj':m[j]?=some m[j]:=aa9 hj
     obtain⟨c₀,c,q1,q2,q3⟩:=both j _ hj'
     rcases q3 with⟨_,k1,_,k2,k3⟩|⟨c',k1,k2,k3⟩
     ·rw[k2]at h;rw[k1];exact H.dead _ h
     ·rw[rm j _ hj']at h
      have h2:h'[j]?=some .dead:=CP.hr.dead _ h
      rw[q2]at h2;cases h2
      simp[Gq]at k1;subst k1;exact k2
    ·rw[ro id hm hb]at h
     rw[(other id hm hb).1,←hfz]
     have hd:=H.dead _ h
     split
     ·exact hd
     ·rw[((Ee g lent g id).1 (.inr (fun st fl wr rows e=>by rw[hd]at e;cases e))).1];exact hd
  ·have look:∀id cb co st sz,ρ' id=.pl cb co st sz→(∃i,Fq m base i=id∧ρc' i=.pl cb co st sz)∨(id∉m∧ρ id=.pl cb co st sz):=fun id cb co st sz h=>by
    by_cases hb:base≤id∧id<base+(h'.length-m.length)
    ·rw[rn id hb]at h
     refine .inl ⟨_,?_,h⟩
     unfold Fq;rw[if_neg (by omega)];omega
    ·by_cases hm:id∈m
     ·obtain⟨j,hj,rfl⟩:=acQ.1 hm
      have hj':m[j]?=some m[j]:=aa9 hj
      rw[rm j _ hj']at h
      refine .inl ⟨j,?_,h⟩
      unfold Fq;rw[if_pos hj,adQ,hj'];rfl
     ·rw[ro id hm hb]at h;exact .inr ⟨hm,h⟩
   rcases look _ _ _ _ _ ha with⟨i,rfl,hi⟩|⟨hi1,hi2⟩<;>rcases look _ _ _ _ _ hb with⟨j,rfl,hj⟩|⟨hj1,hj2⟩
   ·rw[CP.hr.inj _ _ _ _ _ _ _ _ _ hi hj]
   ·exact(notc _ _ _ _ _ hj2 hj1 _ _ _ _ hi).elim
   ·exact(notc _ _ _ _ _ hi2 hi1 _ _ _ _ hj).elim
   ·exact H.inj _ _ _ _ _ _ _ _ _ hi2 hj2
  ·show ∃r ps' asg body tmps st,_∧Ap g (fz++ps++ns) id=_∧_
   by_cases hb:base≤id∧id<base+(h'.length-m.length)
   ·rw[rn id hb]at h
    have hlt:m.length+(id-base)<h'.length:=by omega
    obtain⟨c',k1,k2,k3⟩:=fresh1 id hb.1 _ (aa9 hlt)
    rw[k2]
    exact at1L _ _ _ _ (aa9 hlt) k1 ⟨_,aeY _ k3,rfl⟩ h
   ·by_cases hm:id∈m
    ·obtain⟨j,hj,rfl⟩:=acQ.1 hm
     have hj':m[j]?=some m[j]:=aa9 hj
     obtain⟨c₀,c,q1,q2,q3⟩:=both j _ hj'
     rcases q3 with⟨k0,k1,_,k2,k3⟩|⟨c',k1,k2,k3⟩
     ·have hj2:ρc' j=.lp l:=by rw[←rm j _ hj'];exact h
      rw[k2]at h
      obtain⟨r,ps0,asg,body,tmps,st,a1,a2,a3⟩:=H.lps _ _ h
      obtain⟨r',ps',asg',body',tmps',st',b1,b2,b3⟩:=CP.hr.lps j l hj2
      obtain⟨sx,px,c1⟩:=CP.sim.loops l r a1
      rw[c1]at b1;cases b1
      refine⟨_,ps0,asg,body,tmps,st,c1,by rw[k1];exact a2,a3.params,a3.assign,a3.body,LR.sim hsim a3.tmps,?_⟩
      obtain⟨b',c2,r1,r2,r3⟩:=hcs j c₀ q1
      rw[hj']at r1;cases r1
      rw[a2]at r2;cases r2
      have b2':h'[j]?=some _:=b2
      rw[q2]at b2';cases b2'
      cases r3
      have b5:=b3.state
      cases st<;>cases st'<;>simp[CB.same]at k0<;>exact b5
     ·rw[rm j _ hj']at h
      rw[k2]
      exact at1L _ _ _ _ q2 k1 ⟨_,ajX _ k3,rfl⟩ h
    ·rw[ro id hm hb]at h
     obtain⟨r,ps0,asg,body,tmps,st,a1,a2,a3⟩:=H.lps _ _ h
     refine⟨r,ps0,asg,body,tmps,st,by rw[(privL id l h hm).2];exact a1,?_,a3.sim hsim⟩
     rw[(other id hm hb).1,←hfz]
     split
     ·exact a2
     ·rw[((Ee g lent g id).1 (.inr (fun st fl wr rows e=>by rw[a2]at e;cases e))).1];exact a2
  ·have look:∀id l,ρ' id=.lp l→(∃i,Fq m base i=id∧ρc' i=.lp l)∨(id∉m∧ρ id=.lp l):=fun id l h=>by
    by_cases hb:base≤id∧id<base+(h'.length-m.length)
    ·rw[rn id hb]at h
     refine .inl ⟨_,?_,h⟩
     unfold Fq;rw[if_neg (by omega)];omega
    ·by_cases hm:id∈m
     ·obtain⟨j,hj,rfl⟩:=acQ.1 hm
      have hj':m[j]?=some m[j]:=aa9 hj
      rw[rm j _ hj']at h
      refine .inl ⟨j,?_,h⟩
      unfold Fq;rw[if_pos hj,adQ,hj'];rfl
     ·rw[ro id hm hb]at h;exact .inr ⟨hm,h⟩
   rcases look _ _ ha with⟨i,rfl,hi⟩|⟨hi1,hi2⟩<;>rcases look _ _ hb with⟨j,rfl,hj⟩|⟨hj1,hj2⟩
   ·rw[CP.hr.linj _ _ _ hi hj]
   ·exact(notcL _ _ hj2 hj1 _ hi).elim
   ·exact(notcL _ _ hi2 hi1 _ hj).elim
   ·exact H.linj _ _ _ hi2 hj2
  ·by_cases hb:base≤id∧id<base+(h'.length-m.length)
   ·rw[rn id hb]at h;exact CP.hr.lnS _ _ h hs.1
   ·by_cases hm:id∈m
    ·obtain⟨j,hj,rfl⟩:=acQ.1 hm
     rw[rm j _ (aa9 hj)]at h
     exact CP.hr.lnS _ _ h hs.1
    ·rw[ro id hm hb]at h
     obtain⟨_,_,_,_,_,_,q1,_⟩:=H.lps _ _ h
     have nopl:∀id co st sz,ρ id≠.pl l co st sz:=fun id co st sz e=>by
      obtain⟨_,_,_,_,_,q2,_⟩:=H.at_ _ _ _ _ _ e
      rw[q1]at q2;cases q2
     rcases CP.sim.grow l hs.1 with(h1|⟨id',Fe,co2,st2,sz2,h1⟩)|h1|⟨i,co2,st2,sz2,h1⟩
     ·exact H.lnS _ _ h h1
     ·exact nopl _ _ _ _ h1
     ·have:=(ae4.1 q1).1;omega
     ·obtain⟨b',_,hb2⟩:=viaAt _ _ _ _ _ h1;exact nopl _ _ _ _ hb2
 ·intro b cb co st sz h hn
  have hbb:¬(base≤b∧b<base+(h'.length-m.length)):=fun h1=>by rw[hnew b h1.1 h1.2]at h;cases h
  by_cases hm:b∈m
  ·obtain⟨j,hj,rfl⟩:=acQ.1 hm
   have hj':m[j]?=some m[j]:=aa9 hj
   obtain⟨c₀,c,q1,q2,q3⟩:=both j _ hj'
   rcases q3 with⟨k0,k1,_,k2,k3⟩|⟨c',k1,k2,k3⟩
   ·exact⟨by rw[k2];exact h,k3 _ _ _ _ h⟩
   ·exact(hn ⟨_,ajX _ (aeY _ k3),rfl⟩).elim
  ·exact⟨by rw[ro b hm hbb];exact h,(priv b cb co st sz h hm).2⟩
 ·show ρ' b=.fresh↔(ρ b=.fresh∧¬Hl (fz++ps++ns) b)
  have nofz:ρ b=.fresh→¬Hl fz b:=fun hb=>by
   rw[←hfz]
   split
   ·exact fun⟨e,he,_⟩=>by simp at he
   ·exact((Ee g lent g b).1 (.inl (fun hl=>hlf b hl hb))).2
  have nops:ρ b=.fresh→¬Hl ps b:=fun hb=>((P1 b).1 (fun hm=>hmf b hm hb)).2
  constructor
  ·intro h
   by_cases hr:base≤b∧b<base+(h'.length-m.length)
   ·rw[rn b hr]at h
    exact(CP.all _ (by omega) h).elim
   ·by_cases hm:b∈m
    ·obtain⟨j,hj,rfl⟩:=acQ.1 hm
     rw[rm j _ (aa9 hj)]at h
     exact(CP.all j (by omega) h).elim
    ·rw[ro b hm hr]at h
     exact⟨h,eid b (nofz h) (nops h) (inr b hr).2⟩
  ·rintro⟨h1,h2⟩
   by_cases hr:base≤b∧b<base+(h'.length-m.length)
   ·obtain⟨c',_,_,k3⟩:=fresh1 b hr.1 _ (aa9 (by omega:m.length+(b-base)<h'.length))
    exact(h2 ⟨_,aeY _ k3,rfl⟩).elim
   ·rw[ro b (fun hm=>hmf b hm h1) hr];exact h1
end
def Yv:Nat→List Ad→Prop
 |_,[]=>True
 |n,.new b _::es=>b=n∧Yv (n+1) es
 |n,.cells b _ _ _::es=>b<n∧Yv n es
 |n,.put b _::es=>b<n∧Yv n es
theorem aiW{h:Aa}{b:Nat}(hb:b<h.length)(c:CB):hf (h.set b c)=Ji (hf h) b c:=by
 funext i
 simp only[hf,Ji,List.getElem?_set]
 by_cases hi:i=b
 ·subst hi;simp[hb]
 ·simp[hi,Ne.symm hi]
theorem akE(h:Aa)(c:CB):hf (h++[c])=Ji (hf h) h.length c:=by
 funext i
 simp only[hf,Ji,List.getElem?_append]
 by_cases hi:i<h.length
 ·simp[hi];intro e;omega
 ·by_cases hi2:i=h.length
  ·subst hi2;simp
  ·simp[hi,hi2]
   have:i-h.length≠0:=by omega
   omega
theorem Vt:∀{es:List Ad} {h:Aa},Yv h.length es→hf (Ar h es)=Ap (hf h) es∧h.length≤(Ar h es).length∧(∀b,Hl es b→b<(Ar h es).length)∧(∀b,h.length≤b→b<(Ar h es).length→Hl es b)
 | [],h,_=>⟨rfl,adM _,fun b ⟨e,he,_⟩=>by simp at he,fun b h1 h2=>by simp[Ar]at h2;omega⟩
 |e::es,h,ok=>by
  have key:∀h1:Aa,Cc h e=h1→hf h1=Bm (hf h) e→h.length≤h1.length→e.id<h1.length→(∀b,h.length≤b→b<h1.length→e.id=b)→Yv h1.length es→
   hf (Ar h (e::es))=Ap (hf h) (e::es)∧h.length≤(Ar h (e::es)).length∧(∀b,Hl (e::es) b→b<(Ar h (e::es)).length)∧(∀b,h.length≤b→b<(Ar h (e::es)).length→Hl (e::es) b):=by
   intro h1 e1 e2 e3 e4 e5 ok1
   obtain⟨k1,k2,k3,k4⟩:=Vt ok1
   simp only[Ar,Ap,e1]
   refine⟨by rw[k1,e2],by omega,fun b ⟨x,hx,Fe⟩=>?_,fun b q1 q2=>?_⟩
   ·rcases adG.1 hx with rfl|hx
    ·omega
    ·exact k3 b ⟨x,hx,Fe⟩
   ·rcases adO b h1.length with q3|q3
    ·exact⟨e,adJ ..,e5 b q1 q3⟩
    ·obtain⟨x,hx,Fe⟩:=k4 b q3 q2;exact⟨x,acV _ hx,Fe⟩
  cases e with
  |new b c=>
   obtain⟨rfl,ok1⟩:=ok
   exact key (h++[c]) rfl (akE h c) (by simp) (by simp[Ad.id]) (fun b q1 q2=>by simp at q2;simp[Ad.id];omega) (by simpa using ok1)
  |put b c=>
   obtain⟨hb,ok1⟩:=ok
   exact key (h.set b c) rfl (aiW hb c) (by simp) (by simp[Ad.id,hb]) (fun b q1 q2=>by simp at q2;omega) (by simpa using ok1)
  |cells b r o vs=>
   obtain⟨hb,ok1⟩:=ok
   cases hc:h[b]? with
   |none=>exact key h (by simp[Cc,hc]) (by simp[Bm,hf,hc]) (adM _) hb (fun b q1 q2=>by omega) ok1
   |some c=>
    cases c with
    |live st fl w rows=>exact key (h.set b (.live st (fl&&vs.all AV.flat) true (Kw rows r o vs))) (by simp only[Cc,hc]) (by rw[aiW hb];simp only[Bm,hf,hc]) (by simp) (by simp[Ad.id,hb]) (fun b q1 q2=>by simp at q2;omega) (by simpa using ok1)
    |frz st fl rows=>exact key h (by simp[Cc,hc]) (by simp[Bm,hf,hc]) (adM _) hb (fun b q1 q2=>by omega) ok1
    |dead=>exact key h (by simp[Cc,hc]) (by simp[Bm,hf,hc]) (adM _) hb (fun b q1 q2=>by omega) ok1
    |lp _ _ _ _ _=>exact key h (by simp[Cc,hc]) (by simp[Bm,hf,hc]) (adM _) hb (fun b q1 q2=>by omega) ok1
structure Eg(h:Aa)(es:List Ad):Prop where
 ok:Yv h.length es
 touched:∀b,Hl es b→b<h.length→(∃c0,hf h b=some c0∧c0.isLive=true)∧∀c,Ap (hf h) es b=some c→c.unw=false
 untouched:∀b,¬Hl es b→Ap (hf h) es b=hf h b
theorem Lc{h:Aa}{b:Nat}{c:CB}(e:hf h b=some c):b<h.length:=(acR.1 e).1
theorem Eg.nil(h:Aa):Eg h []:=⟨trivial,fun b ⟨e,he,_⟩=>by simp at he,fun _ _=>rfl⟩
theorem Eg.new(h:Aa)(c:CB):Eg h [.new h.length c]:=by
 refine⟨⟨rfl,trivial⟩,fun b ⟨e,he,Fe⟩ hb=>?_,fun b hn=>?_⟩
 ·simp at he;subst he;simp[Ad.id]at Fe;omega
 ·simp only[Ap,Bm,Ji]
  rw[if_neg (fun e=>hn ⟨_,aoB.2 rfl,e.symm⟩)]
theorem Eg.cells{h:Aa}{b st r o:Nat}{fl wr:Bool}{rows:List (List AV)}{vs:List AV}(hb:hf h b=some (.live st fl wr rows)):Eg h [.cells b r o vs]:=by
 refine⟨⟨Lc hb,trivial⟩,fun b' ⟨e,he,Fe⟩ _=>?_,fun b' hn=>?_⟩
 ·simp at he;subst he;simp[Ad.id]at Fe;subst Fe
  refine⟨⟨_,hb,rfl⟩,fun c hc=>?_⟩
  simp only[Ap,Bm,hb,Ji]at hc
  simp at hc;subst hc;rfl
 ·simp only[Ap,Bm,hb,Ji]
  rw[if_neg (fun e=>hn ⟨_,aoB.2 rfl,e.symm⟩)]
theorem Eg.move{h:Aa}{b st:Nat}{fl wr:Bool}{rows:List (List AV)}(c:CB)(hb:hf h b=some (.live st fl wr rows)):Eg h [.put b .dead,.new h.length c]:=by
 have hlt:=Lc hb
 refine⟨⟨hlt,rfl,trivial⟩,fun b' ⟨e,he,Fe⟩ hb'=>?_,fun b' hn=>?_⟩
 ·simp at he
  rcases he with rfl|rfl
  ·simp[Ad.id]at Fe;subst Fe
   refine⟨⟨_,hb,rfl⟩,fun c' hc=>?_⟩
   simp only[Ap,Bm,Ji]at hc
   rw[if_neg (by omega)]at hc
   simp at hc;subst hc;rfl
  ·simp[Ad.id]at Fe;omega
 ·simp only[Ap,Bm,Ji]
  rw[if_neg (fun e=>hn ⟨_,acV _ (aoB.2 rfl),e.symm⟩),if_neg (fun e=>hn ⟨_,adJ ..,e.symm⟩)]
theorem nH{P:Program}{h:Aa}{tmps:List AV}{o:Op}{d:Jl}(he:exec P (hf h) h.length tmps o=some d):Eg h d.es:=by
 have pure':∀{x:Option AV} {d:Jl},Gy x=some d→Eg h d.es:=fun hx=>by
  obtain⟨v,_,rfl⟩:=acI.1 hx;exact .nil h
 have new':∀{v:AV} {d:Jl},eM h.length v=some d→Eg h d.es:=fun hx=>by
  unfold eM at hx
  split at hx<;>simp at hx
  subst hx;exact .new h _
 cases o with
 |move x=>exact pure' he
 |assign x=>exact pure' he
 |pick a b c=>
  simp only[exec,abQ]at he
  obtain⟨c,_,x,_,y,_,he⟩:=he
  split at he<;>simp at he
  subst he;exact .nil h
 |alloc t=>obtain⟨z,_,he⟩:=abQ.1 he;exact new' he
 |box t x=>obtain⟨z,_,he⟩:=abQ.1 he;exact new' he
 |build t ps=>obtain⟨z,_,he⟩:=abQ.1 he;exact pure' he
 |buildSlice t n ps=>
  obtain⟨z,_,he⟩:=abQ.1 he
  unfold Cm at he
  simp only[abQ]at he
  obtain⟨e,_,n,_,z,_,he⟩:=he
  split at he
  ·simp at he
  ·obtain⟨rows,_,he⟩:=abQ.1 he
   split at he<;>simp at he
   subst he;exact .new h _
 |load t x=>
  obtain⟨p,_,he⟩:=abQ.1 he
  unfold Pm at he
  simp only[abQ]at he
  obtain⟨isA,_,n,_,he⟩:=he
  split at he
  ·split at he<;>simp at he;subst he;exact .nil h
  ·obtain⟨cs,_,he⟩:=abQ.1 he
   split at he<;>simp at he;subst he;exact .nil h
  ·simp at he;subst he;exact .nil h
  ·obtain⟨cs,_,he⟩:=abQ.1 he
   obtain⟨v,_,rfl⟩:=acI.1 he;exact .nil h
  ·simp at he
 |store t x y=>
  simp only[exec,abQ]at he
  obtain⟨p,_,v,_,he⟩:=he
  unfold Re at he
  obtain⟨n,_,he⟩:=abQ.1 he
  cases p with
  |ptr b r o=>
   simp only at he
   split at he
   ·rename_i hg
    obtain⟨cs,_,he⟩:=abQ.1 he
    split at he<;>simp at he
    subst he;exact .cells hg
   ·simp at he
  |_=>simp at he
 |nilCheck x=>
  obtain⟨p,_,he⟩:=abQ.1 he
  split at he<;>simp at he<;>subst he<;>exact .nil h
 |binOp op t x y ty=>
  simp only[exec,abQ]at he
  obtain⟨p,_,v,_,he⟩:=he;exact pure' he
 |unOp op t x=>obtain⟨z,_,he⟩:=abQ.1 he;exact pure' he
 |convert s t x=>obtain⟨z,_,he⟩:=abQ.1 he;exact pure' he
 |makeInterface t x=>
  obtain⟨z,_,he⟩:=abQ.1 he
  split at he<;>simp at he;subst he;exact .nil h
 |makeFunc fn xs ys=>
  cases fn with
  |func f=>
   simp only[exec,abQ]at he
   obtain⟨p,_,v,_,he⟩:=he
   simp at he;subst he;exact .nil h
  |_=>simp[exec]at he
 |makeSlice t x y=>
  simp only[exec,abQ]at he
  obtain⟨p,_,v,_,he⟩:=he
  unfold Ib at he
  simp only[abQ]at he
  obtain⟨e,_,n,_,b,_,z,_,he⟩:=he
  split at he
  ·split at he<;>simp at he;subst he;exact .new h _
  ·simp at he
 |slice t x lo hi mx=>
  cases mx with
  |some m=>simp[exec]at he
  |none=>
   simp only[exec,abQ]at he
   obtain⟨p,_,v,_,u,_,he⟩:=he;exact pure' he
 |fieldAddr t x f=>obtain⟨z,_,he⟩:=abQ.1 he;exact pure' he
 |field t x f=>obtain⟨z,_,he⟩:=abQ.1 he;exact pure' he
 |indexAddr t x y=>
  simp only[exec,abQ]at he
  obtain⟨p,_,v,_,he⟩:=he;exact pure' he
 |index t x y=>
  simp only[exec,abQ]at he
  obtain⟨p,_,v,_,he⟩:=he;exact pure' he
 |extract x i=>
  obtain⟨z,_,he⟩:=abQ.1 he
  split at he
  ·exact pure' he
  ·simp at he
 |call c=>
  obtain⟨cal,args,ts⟩:=c
  cases cal with
  |builtin b=>
   obtain⟨vs,_,he⟩:=abQ.1 he
   split at he
   ·obtain⟨t,_,he⟩:=abQ.1 he;exact pure' he
   ·simp only[abQ]at he
    obtain⟨t,_,t1,_,he⟩:=he
    have app:∀{s x:AV},Hr P (hf h) h.length t s x=some d→Eg h d.es:=fun ha=>by
     unfold Hr at ha
     simp only[abQ]at ha
     obtain⟨e,_,n,_,b,_,z,_,⟨nfl,new,fs⟩,_,ha⟩:=ha
     simp only at ha
     split at ha
     ·simp at ha
     ·split at ha
      ·split at ha<;>simp at ha<;>subst ha<;>exact .nil h
      ·split at ha<;>simp at ha
       subst ha;exact .new h _
      ·split at ha
       ·rename_i hg
        split at ha<;>simp at ha
        subst ha;exact .move _ hg
       ·simp at ha
      ·simp at ha
    split at he
    ·exact app he
    ·exact app he
    ·simp at he
   ·exact pure' he
   ·exact pure' he
   ·exact pure' he
   ·exact pure' he
   ·simp at he
  |_=>simp[exec]at he
 |_=>simp[exec]at he
theorem Tv:∀{a b:List Ad} {n:Nat},Yv n a→(∀e∈a,∀i c,e≠.new i c)→Yv n b→Yv n (a++b)
 | [],b,n,_,_,hb=>hb
 | .new i c::a,b,n,_,hn,_=>(hn _ (adJ ..) i c rfl).elim
 | .cells i r o vs::a,b,n,ha,hn,hb=>⟨ha.1,Tv ha.2 (fun e he=>hn e (acV _ he)) hb⟩
 | .put i c::a,b,n,ha,hn,hb=>⟨ha.1,Tv ha.2 (fun e he=>hn e (acV _ he)) hb⟩
theorem dY:∀{es:List Ad} {n:Nat},(∀e∈es,∃b c,e=.put b c∧b<n)→Yv n es
 | [],_,_=>trivial
 |e::es,n,h=>by
  obtain⟨b,c,rfl,hb⟩:=h e (adJ ..)
  exact⟨hb,dY (fun e he=>h e (acV _ he))⟩
theorem lQ{f:Nat→Nat}:∀{cs:List CB} {base:Nat} {ns:List Ad},Ip f base cs=some ns→Yv base ns
 | [],base,ns,h=>by simp[Ip]at h;subst h;trivial
 |c::cs,base,ns,h=>by
  simp only[Ip,abQ,acI]at h
  obtain⟨c',_,ns',hns,rfl⟩:=h
  exact⟨rfl,lQ hns⟩
theorem Zo{f:Nat→Nat}:∀{m:List Nat} {cs₀ cs:List CB} {ps:List Ad},Ht f m cs₀ cs=some ps→∀e∈ps,∃(j b:Nat) (c₀ c c':CB),e=.put b c'∧m[j]?=some b∧cs₀[j]?=some c₀∧cs[j]?=some c∧Gq f c=some c'∧c.unw=false∧c₀.isLive=true
 | [],[],[],ps,h,e,he=>by simp[Ht]at h;subst h;simp at he
 |a::m,c₀::cs₀,c::cs,ps,h,e,he=>by
  unfold Ht at h
  cases hs:c₀.same c with
  |true=>
   rw[hs]at h
   obtain⟨j,b,d0,d,d',k1,k2,k3,k4,k5⟩:=Zo (by simpa using h) e he
   exact⟨j+1,b,d0,d,d',k1,by simpa using k2,by simpa using k3,by simpa using k4,k5⟩
  |false=>
   rw[hs]at h
   simp only[cond_false]at h
   cases hu:(c.unw|| !c₀.isLive)with
   |true=>rw[hu]at h;simp at h
   |false=>
    rw[hu]at h
    have hu1:c.unw=false:=by simp at hu;exact hu.1
    have hu2:c₀.isLive=true:=by simp at hu;exact hu.2
    simp only[cond_false,abQ,acI]at h
    obtain⟨c',hc',ps',hps,rfl⟩:=h
    rcases adG.1 he with rfl|he
    ·exact⟨0,a,c₀,c,c',rfl,rfl,rfl,rfl,hc',hu1,hu2⟩
    ·obtain⟨j,b,d0,d,d',k1,k2,k3,k4,k5⟩:=Zo hps e he
     exact⟨j+1,b,d0,d,d',k1,by simpa using k2,by simpa using k3,by simpa using k4,k5⟩
 | [],[],_::_,ps,h,_,_=>by simp[Ht]at h
 | [],_::_,_,ps,h,_,_=>by simp[Ht]at h
 |_::_,[],_,ps,h,_,_=>by simp[Ht]at h
 |_::_,_::_,[],ps,h,_,_=>by simp[Ht]at h
theorem sC{f:Nat→Nat}{m:List Nat}{cs₀ cs:List CB}{ps:List Ad}(h:Ht f m cs₀ cs=some ps){b:Nat}(hn:¬Hl ps b)(g:HF):Ap g ps b=g b:=by
 have aux:∀(es:List Ad) (g:HF),(∀e∈es,∃b c,e=Ad.put b c)→¬Hl es b→Ap g es b=g b:=by
  intro es
  induction es with
  |nil=>intro g _ _;rfl
  |cons e es ih=>
   intro g hp hn
   obtain⟨b',c',rfl⟩:=hp e (adJ ..)
   simp only[Ap,Bm]
   rw[ih _ (fun e he=>hp e (acV _ he)) (fun⟨e,he,Fe⟩=>hn ⟨e,acV _ he,Fe⟩)]
   simp only[Ji];rw[if_neg (fun e=>hn ⟨_,adJ ..,e.symm⟩)]
 exact aux ps g (fun e he=>by obtain⟨j,b,c₀,c,c',k1,_⟩:=Zo h e he;exact⟨b,c',k1⟩) hn
theorem Uc{g:HF}:∀{l:List Nat} {e:Ad},e∈Dt g l→∃b st fl wr rows,e=.put b (.frz st fl rows)∧b∈l∧g b=some (.live st fl wr rows)
 | [],e,h=>by simp[Dt]at h
 |a::l,e,h=>by
  unfold Dt at h
  split at h
  ·rename_i st fl wr rows hg
   rcases adG.1 h with rfl|h
   ·exact⟨a,st,fl,wr,rows,rfl,adJ ..,hg⟩
   ·obtain⟨b,st,fl,wr,rows,k1,k2,k3⟩:=Uc h;exact⟨b,st,fl,wr,rows,k1,acV _ k2,k3⟩
  ·obtain⟨b,st,fl,wr,rows,k1,k2,k3⟩:=Uc h;exact⟨b,st,fl,wr,rows,k1,acV _ k2,k3⟩
theorem aaI{f:Nat→Nat}{c c':CB}(h:Gq f c=some c'):c'.unw=c.unw:=by
 unfold Gq at h
 split at h
 ·simp at h;subst h;rfl
 ·obtain⟨r,_,rfl⟩:=acI.1 h;rfl
 ·simp at h;subst h;rfl
 ·obtain⟨r,_,rfl⟩:=acI.1 h;rfl
 ·simp at h;subst h;rfl
 ·obtain⟨r,_,rfl⟩:=acI.1 h;rfl
theorem uC{h:Aa}{m lent:List Nat}{cs:List CB}(hnd:m.Nodup)(hlen:cs.length=m.length)(hcs:∀(i:Nat) c',cs[i]?=some c'→∃b c,m[i]?=some b∧hf h b=some c∧Zw m c c')(hlm:∀b∈lent,b∉m)
 {out:Ea} {h':Aa} {d:Le} (hu:Lm (hf h) h.length lent m cs out h'=some d):Eg h d.es:=by
 unfold Lm at hu
 simp only[abQ]at hu
 obtain⟨v,hv,ps,hps,ns,hns,hu⟩:=hu
 generalize(lent.isEmpty|| !(hasImm 8 v||(ps++ns).any Ad.hasImm))=cc at hu
 simp only[adL.injEq]at hu
 subst hu
 generalize hfz:(if cc=true then([]:List Ad)else Dt (hf h) lent)=fz
 have fzm:∀e∈fz,∃b st fl wr rows,e=.put b (.frz st fl rows)∧b∈lent∧hf h b=some (.live st fl wr rows):=fun e he=>by
  rw[←hfz]at he
  split at he
  ·simp at he
  ·exact Uc he
 have psm:=Zo hps
 have hmg:∀j b c₀,m[j]?=some b→cs[j]?=some c₀→∃c,hf h b=some c∧Zw m c c₀:=fun j b c₀ hj hc=>by
  obtain⟨b',c,k1,k2,k3⟩:=hcs j c₀ hc
  rw[hj]at k1;cases k1;exact⟨c,k2,k3⟩
 have hmb:∀b∈m,b<h.length:=fun b hb=>by
  obtain⟨j,hj,rfl⟩:=acQ.1 hb
  obtain⟨c,k1,_⟩:=hmg j _ _ (aa9 hj) (aa9 (by omega:j<cs.length))
  exact Lc k1
 show Eg h (fz++ps++ns)
 have hes:Ap (hf h) (fz++ps++ns)=Ap (Ap (Ap (hf h) fz) ps) ns:=by rw[Pv,Pv]
 have P1:=fun b=>Wx hps hnd (Ap (hf h) fz) b
 have N1:=fun b=>Xg hns (Ap (Ap (hf h) fz) ps) b
 have F1:∀b,¬Hl fz b→Ap (hf h) fz b=hf h b:=fun b hb=>by
  rw[←hfz]at hb ⊢
  split
  ·rfl
  ·rename_i hc
   rw[if_neg hc]at hb
   by_cases hl:b∈lent
   ·by_cases hlv:∀st fl wr rows,hf h b≠some (.live st fl wr rows)
    ·exact((Ee (hf h) lent (hf h) b).1 (.inr hlv)).1
    ·exfalso
     simp only[Classical.not_forall,ne_eq,Classical.not_not]at hlv
     obtain⟨st,fl,wr,rows,hg⟩:=hlv
     have h2:=(Ee (hf h) lent (hf h) b).2 hl st fl wr rows hg
     have h3:Ap (hf h) (Dt (hf h) lent) b=hf h b:=by
      have aux:∀(es:List Ad) (g:HF),(∀e∈es,∃b c,e=Ad.put b c)→¬Hl es b→Ap g es b=g b:=by
       intro es
       induction es with
       |nil=>intro g _ _;rfl
       |cons e es ih=>
        intro g hp hn
        obtain⟨b',c',rfl⟩:=hp e (adJ ..)
        simp only[Ap,Bm]
        rw[ih _ (fun e he=>hp e (acV _ he)) (fun⟨e,he,Fe⟩=>hn ⟨e,acV _ he,Fe⟩)]
        simp only[Ji];rw[if_neg (fun e=>hn ⟨_,adJ ..,e.symm⟩)]
      exact aux _ _ (fun e he=>by obtain⟨b,st,fl,wr,rows,k1,_⟩:=Uc he;exact⟨b,_,k1⟩) hb
     rw[h2,hg]at h3;cases h3
   ·exact((Ee (hf h) lent (hf h) b).1 (.inl hl)).1
 have nsid:∀b,Hl ns b→h.length≤b:=fun b he=>by
  rcases adO b h.length with h1|h1
  ·exact(((N1 b).1 (by omega)).2 he).elim
  ·exact h1
 have psid:∀b,Hl ps b→b∈m:=fun b he=>by
  by_cases hm:b∈m
  ·exact hm
  ·exact(((P1 b).1 hm).2 he).elim
 have fzid:∀b,Hl fz b→b∈lent∧∃st fl wr rows,hf h b=some (.live st fl wr rows)∧Ap (hf h) fz b=some (.frz st fl rows):=fun b ⟨e,he,Fe⟩=>by
  obtain⟨b',st,fl,wr,rows,k1,k2,k3⟩:=fzm e he
  subst k1;simp[Ad.id]at Fe;subst Fe
  refine⟨k2,st,fl,wr,rows,k3,?_⟩
  rw[←hfz]at he ⊢
  split
  ·rename_i hc;rw[if_pos hc]at he;simp at he
  ·exact(Ee (hf h) lent (hf h) b').2 k2 st fl wr rows k3
 refine⟨?_,fun b he hb=>?_,fun b hn=>?_⟩
 ·rw[List.append_assoc]
  refine Tv (dY (fun e he=>?_)) (fun e he i c=>?_) (Tv (dY (fun e he=>?_)) (fun e he i c=>?_) (lQ hns))
  ·obtain⟨b,st,fl,wr,rows,k1,k2,k3⟩:=fzm e he;exact⟨b,_,k1,Lc k3⟩
  ·obtain⟨b,st,fl,wr,rows,k1,k2,k3⟩:=fzm e he;rw[k1];simp
  ·obtain⟨j,b,c₀,c,c',k1,k2,_⟩:=psm e he;exact⟨b,_,k1,hmb b (acL k2)⟩
  ·obtain⟨j,b,c₀,c,c',k1,k2,_⟩:=psm e he;rw[k1];simp
 ·have hnb:¬Hl ns b:=fun h1=>by have:=nsid b h1;omega
  have hn1:=((N1 b).1 (by omega)).1
  rw[hes,hn1]
  obtain⟨e,he1,Fe⟩:=he
  rcases ak9.1 he1 with he1|he1
  ·rcases ak9.1 he1 with he1|he1
   ·obtain⟨hl,st,fl,wr,rows,k1,k2⟩:=fzid b ⟨e,he1,Fe⟩
    refine⟨⟨_,k1,rfl⟩,fun c hc=>?_⟩
    rw[((P1 b).1 (hlm b hl)).1,k2]at hc;cases hc;rfl
   ·obtain⟨j,b',c₀,c,c',k1,k2,k3,k4,k5,k6,k7⟩:=psm e he1
    subst k1;simp[Ad.id]at Fe;subst Fe
    obtain⟨c2,q1,q2⟩:=hmg j _ _ k2 k3
    refine⟨?_,fun c3 hc3=>?_⟩
    ·cases q2 with
     |live _ _=>exact⟨_,q1,rfl⟩
     |lp _=>exact⟨_,q1,rfl⟩
     |_=>simp[CB.isLive]at k7
    ·rcases(P1 b').2 j c₀ c k2 k3 k4 with⟨r1,r2,r3⟩|⟨r1,r2,r3,c4,r4,r5,r6⟩
     ·exact(r3 ⟨_,he1,rfl⟩).elim
     ·rw[r5]at hc3;cases hc3
      rw[aaI r4];exact r2
  ·exact(hnb ⟨e,he1,Fe⟩).elim
 ·have n1:¬Hl fz b:=fun⟨e,he,Fe⟩=>hn ⟨e,ajX _ (ajX _ he),Fe⟩
  have n2:¬Hl ps b:=fun⟨e,he,Fe⟩=>hn ⟨e,ajX _ (aeY _ he),Fe⟩
  have n3:¬Hl ns b:=fun⟨e,he,Fe⟩=>hn ⟨e,aeY _ he,Fe⟩
  have e3:Ap (Ap (Ap (hf h) fz) ps) ns b=Ap (Ap (hf h) fz) ps b:=by
   by_cases hr:h.length≤b∧b<h.length+(h'.drop m.length).length
   ·obtain⟨c',k1,k2,k3⟩:=(N1 b).2 (b-h.length) _ (aa9 (by omega:b-h.length<(h'.drop m.length).length)) (by omega)
    exact(n3 ⟨_,k3,rfl⟩).elim
   ·exact((N1 b).1 hr).1
  have e2:Ap (Ap (hf h) fz) ps b=Ap (hf h) fz b:=by
   exact sC hps n2 _
  rw[hes,e3,e2,F1 b n1]
structure FI(h0:Aa)(w0:World)(S0:Nat→Prop)(ρ0:Am)(h:Aa)(w:World)(S:Nat→Prop)(ρ:Am):Prop where
 hr:HR w S ρ (hf h)
 sim:Gv w0 w S0 S ρ0 ρ
 dom:∀b,h.length≤b→ρ b=.fresh
 all:∀b,b<h.length→ρ b≠.fresh
 all0:∀b,b<h0.length→ρ0 b≠.fresh
 len:h0.length≤h.length
 kind:∀(i:Nat) c,h0[i]?=some c→c.isLive=false→h[i]?=some c
 unw:∀(i:Nat) c c',h0[i]?=some c→h[i]?=some c'→c.same c'=true→ρ i=ρ0 i∧∀cb co st sz,ρ0 i=.pl cb co st sz→w.heap[cb]?=w0.heap[cb]?
theorem FI.start{h:Aa}{w:World}{S:Nat→Prop}{ρ:Am}(H:HR w S ρ (hf h))(dom:∀b,h.length≤b→ρ b=.fresh)(all:∀b,b<h.length→ρ b≠.fresh):FI h w S ρ h w S ρ:=
 ⟨H,Gv.refl _ _ _,dom,all,all,adM _,fun _ _ h _=>h,fun _ _ _ _ _ _=>⟨rfl,fun _ _ _ _ _=>rfl⟩⟩
theorem FI.step{h0:Aa}{w0:World}{S0:Nat→Prop}{ρ0:Am}{h:Aa}{w:World}{S:Nat→Prop}{ρ:Am}(F:FI h0 w0 S0 ρ0 h w S ρ){es:List Ad}(G:Eg h es){w':World}{S':Nat→Prop}{ρ':Am}
 (H:HR w' S' ρ' (Ap (hf h) es)) (hs:Gv w w' S S' ρ ρ') (hl:Wb (Hl es) w w' ρ ρ') (hfr:Xv es ρ ρ'):FI h0 w0 S0 ρ0 (Ar h es) w' S' ρ':=by
 obtain⟨k1,k2,k3,k4⟩:=Vt G.ok
 have at':∀(i:Nat) c,(Ar h es)[i]?=some c→Ap (hf h) es i=some c:=fun i c hc=>by rw[←k1];exact hc
 have of':∀(i:Nat) c,Ap (hf h) es i=some c→(Ar h es)[i]?=some c:=fun i c hc=>by rw[←k1]at hc;exact hc
 refine⟨by rw[k1];exact H,F.sim.trans hs,fun b hb=>?_,fun b hb hf'=>?_,F.all0,Nat.le_trans F.len k2,fun i c hc hl'=>?_,fun i c c' hc hc' hsame=>?_⟩
 ·exact(hfr b).2 ⟨F.dom b (by omega),fun he=>by have:=k3 b he;omega⟩
 ·obtain⟨h1,h2⟩:=(hfr b).1 hf'
  rcases adO b h.length with h3|h3
  ·exact F.all b h3 h1
  ·exact h2 (k4 b h3 hb)
 ·have hi:=F.kind i c hc hl'
  refine of' i c ?_
  rw[G.untouched i (fun he=>?_)]
  ·exact hi
  ·obtain⟨⟨c0,h1,h1'⟩,_⟩:=G.touched i he (Lc (h:=h) hi)
   have h2:hf h i=some c:=hi
   rw[h2]at h1;cases h1;rw[hl']at h1';cases h1'
 ·have hi0:i<h0.length:=(acR.1 hc).1
  have hi:i<h.length:=Nat.lt_of_lt_of_le hi0 F.len
  by_cases hlp:∃ps asg body tmps st,c'=.lp ps asg body tmps st
  ·obtain⟨ps,asg,body,tmps,st,rfl⟩:=hlp
   have hg:=at' i _ hc'
   have hle:=(F.sim.trans hs).le i
   rcases hle with q|q|q
   ·exact(F.all0 i hi0 q).elim
   ·refine⟨q,fun cb co st sz h0'=>?_⟩
    obtain⟨_,_,_,_,_,_,_,_,a4⟩:=H.at_ i cb co st sz (q.trans h0')
    rcases a4 with⟨⟨_,a4⟩,_⟩|⟨a4,_⟩<;>rw[hg]at a4<;>cases a4
   ·have:=H.dead i q
    rw[hg]at this;cases this
  by_cases he:Hl es i
  ·obtain⟨⟨c0,h1,h1'⟩,h2⟩:=G.touched i he hi
   have h3:=h2 c' (at' i c' hc')
   cases c with
   |lp a b e f k=>
    cases c' with
    |lp a b e f k=>exact(hlp ⟨_,_,_,_,_,rfl⟩).elim
    |_=>cases k<;>simp[CB.same]at hsame
   |live a b e f=>cases c' with
    |live a' b' e' f'=>simp[CB.same]at hsame;simp[CB.unw,hsame]at h3
    |_=>simp[CB.same]at hsame
   |frz a b e=>
    have:=F.kind i _ hc rfl
    have h4:hf h i=some _:=this
    rw[h4]at h1;cases h1;cases h1'
   |dead=>
    have:=F.kind i _ hc rfl
    have h4:hf h i=some _:=this
    rw[h4]at h1;cases h1;cases h1'
  ·have hci:h[i]?=some c':=by have:=at' i c' hc';rw[G.untouched i he]at this;exact this
   obtain⟨u1,u2⟩:=F.unw i c c' hc hci hsame
   have hρ':ρ' i=ρ i:=by
    cases hρ:ρ i with
    |fresh=>exact(F.all i hi hρ).elim
    |dead=>
     rcases hs.le i with q|q|q
     ·rw[hρ]at q;cases q
     ·rw[q,hρ]
     ·exact q
    |pl cb co st sz=>exact(hl i cb co st sz hρ he).1
    |lp l=>
     obtain⟨_,_,_,_,_,_,_,q1,_⟩:=F.hr.lps i l hρ
     have hci':hf h i=some c':=hci
     rw[hci']at q1;cases q1
     exact(hlp ⟨_,_,_,_,_,rfl⟩).elim
   refine⟨by rw[hρ',u1],fun cb co st sz h0'=>?_⟩
   rw[(hl i cb co st sz (by rw[u1];exact h0') he).2]
   exact u2 cb co st sz h0'
theorem amQ{g:HF}{base:Nat}{h:Aa}(hh:hOf g base=some h):h.length=base∧∀(i:Nat) c,h[i]?=some c→g i=some c:=by
 obtain⟨h1,h2⟩:=Ei hh
 refine⟨by simpa using h1.symm,fun i c hc=>?_⟩
 obtain⟨a,ha,hg⟩:=h2 i c hc
 have hi:i<base:=by
  have:=(acR.1 ha).1;simpa using this
 rw[List.getElem?_range hi]at ha
 cases ha;exact hg
theorem ae8(h:Aa):hOf (hf h) h.length=some h:=by
 have aux:∀(n:Nat),n≤h.length→As (hf h) (aoC (h.length-n) n)=some (h.drop (h.length-n)):=by
  intro n
  induction n with
  |zero=>intro _;simp[As]
  |succ n ih=>
   intro hn
   have e:h.length-(n+1)+1=h.length-n:=by omega
   rw[aoP,e]
   have hlt:h.length-(n+1)<h.length:=by omega
   have e2:hf h (h.length-(n+1))=some h[h.length-(n+1)]:=aa9 hlt
   simp only[As]
   rw[e2,aoF,ih (by omega),Option.map_some]
   rw[List.drop_eq_getElem_cons hlt,e]
 have:=aux h.length (adM _)
 simp only[Nat.sub_self,List.drop_zero]at this
 unfold hOf
 rw[arW];exact this
theorem kO:∀{cs:List CB} {i:Nat} (g:HF) (b:Nat),(b<i→Ap g (Iq i cs) b=g b∧¬Hl (Iq i cs) b)∧(∀k c,b=i+k→cs[k]?=some c→Ap g (Iq i cs) b=some c∧Hl (Iq i cs) b)∧(∀k,b=i+k→cs.length≤k→Ap g (Iq i cs) b=g b∧¬Hl (Iq i cs) b)
 | [],i,g,b=>⟨fun _=>⟨rfl,fun⟨e,he,_⟩=>by simp[Iq]at he⟩,fun k c _ hc=>by simp at hc,fun _ _ _=>⟨rfl,fun⟨e,he,_⟩=>by simp[Iq]at he⟩⟩
 |c0::cs,i,g,b=>by
  obtain⟨a1,a2,a3⟩:=kO (cs:=cs) (i:=i+1) (Bm g (.new i c0)) b
  have hne:b≠i→Bm g (.new i c0) b=g b:=fun h=>by simp[Bm,Ji,h]
  have heid:b≠i→¬Hl (Iq (i+1) cs) b→¬Hl (Iq i (c0::cs)) b:=fun h1 h2 ⟨e,he,Fe⟩=>by
   simp only[Iq,adG]at he
   rcases he with rfl|he
   ·exact h1 Fe.symm
   ·exact h2 ⟨e,he,Fe⟩
  refine⟨fun h=>?_,fun k c hb hc=>?_,fun k hb hk=>?_⟩
  ·obtain⟨q1,q2⟩:=a1 (by omega)
   exact⟨by simp only[Iq,Ap];rw[q1,hne (by omega)],heid (by omega) q2⟩
  ·cases k with
   |zero=>
    simp at hc;subst hc
    obtain⟨q1,q2⟩:=a1 (by omega)
    exact⟨by simp only[Iq,Ap];rw[q1];simp[Bm,Ji,hb],_,adJ ..,by simp[Ad.id,hb]⟩
   |succ k=>
    obtain⟨q1,e,he,Fe⟩:=a2 k c (by omega) (by simpa using hc)
    exact⟨by simp only[Iq,Ap];exact q1,e,acV _ he,Fe⟩
  ·cases k with
   |zero=>simp at hk
   |succ k=>
    obtain⟨q1,q2⟩:=a3 k (by omega) (by simpa using hk)
    exact⟨by simp only[Iq,Ap];rw[q1,hne (by omega)],heid (by omega) q2⟩
theorem ahZ(c:CB):c.mark.unw=false:=by cases c<;>rfl
structure asG(i:Nat)(h h':Aa)(es:List Ad)(g:HF)(b:Nat):Prop where
 low:b<i→Ap g es b=g b∧¬Hl es b
 both:∀k c₀ c,b=i+k→h[k]?=some c₀→h'[k]?=some c→(c₀.quiet c=true∧Ap g es b=g b∧¬Hl es b)∨(c₀.isLive=true∧Ap g es b=some c.mark∧Hl es b)
 new:∀k c,b=i+k→h.length≤k→h'[k]?=some c→Ap g es b=some c∧Hl es b
 high:∀k,b=i+k→h'.length≤k→Ap g es b=g b∧¬Hl es b
theorem Qo:∀{h h':Aa} {i:Nat} {es:List Ad},Ef i h h'=some es→h.length≤h'.length∧∀(g:HF) (b:Nat),asG i h h' es g b
 | [],h',i,es,hs=>by
   simp only[Ef,adL.injEq]at hs
   subst hs
   refine⟨by simp,fun g b=>?_⟩
   obtain⟨a1,a2,a3⟩:=kO (cs:=h') (i:=i) g b
   exact⟨a1,fun k c₀ c _ hc=>by simp at hc,fun k c hb _ hc=>a2 k c hb hc,fun k hb hk=>a3 k hb hk⟩
 |c₀::h,[],i,es,hs=>by simp[Ef]at hs
 |c₀::h,c::h',i,es,hs=>by
  simp only[Ef]at hs
  cases hq:c₀.quiet c with
  |true=>
   rw[hq]at hs
   simp only[cond_true]at hs
   obtain⟨l,sp⟩:=Qo hs
   refine⟨by simpa using l,fun g b=>?_⟩
   have s:=sp g b
   refine⟨fun hb=>s.low (by omega),fun k x y hb hx hy=>?_,fun k y hb hk hy=>?_,fun k hb hk=>?_⟩
   ·cases k with
    |zero=>
     simp at hx hy;subst hx hy
     exact .inl ⟨hq,s.low (by omega)⟩
    |succ k=>exact s.both k x y (by omega) (by simpa using hx) (by simpa using hy)
   ·cases k with
    |zero=>simp at hk
    |succ k=>exact s.new k y (by omega) (by simpa using hk) (by simpa using hy)
   ·cases k with
    |zero=>simp at hk
    |succ k=>exact s.high k (by omega) (by simpa using hk)
  |false=>
   rw[hq]at hs
   simp only[cond_false]at hs
   cases hlive:c₀.isLive with
   |false=>rw[hlive]at hs;simp at hs
   |true=>
   rw[hlive]at hs
   simp only[cond_true]at hs
   obtain⟨es',hs',rfl⟩:=acI.1 hs
   obtain⟨l,sp⟩:=Qo hs'
   refine⟨by simpa using l,fun g b=>?_⟩
   have s:=sp (Bm g (.put i c.mark)) b
   have hne:b≠i→Bm g (.put i c.mark) b=g b:=fun h=>by simp[Bm,Ji,h]
   have heid:b≠i→¬Hl es' b→¬Hl (.put i c.mark::es') b:=fun h1 h2 ⟨e,he,Fe⟩=>by
    rcases adG.1 he with rfl|he
    ·exact h1 Fe.symm
    ·exact h2 ⟨e,he,Fe⟩
   have yes:Hl es' b→Hl (.put i c.mark::es') b:=fun⟨e,he,Fe⟩=>⟨e,acV _ he,Fe⟩
   refine⟨fun hb=>?_,fun k x y hb hx hy=>?_,fun k y hb hk hy=>?_,fun k hb hk=>?_⟩
   ·obtain⟨q1,q2⟩:=s.low (by omega)
    exact⟨by simp only[Ap];rw[q1,hne (by omega)],heid (by omega) q2⟩
   ·cases k with
    |zero=>
     simp at hx hy;subst hx hy
     obtain⟨q1,q2⟩:=s.low (by omega)
     refine .inr ⟨hlive,?_,_,adJ ..,by simp[Ad.id,hb]⟩
     simp only[Ap];rw[q1];simp[Bm,Ji,hb]
    |succ k=>
     rcases s.both k x y (by omega) (by simpa using hx) (by simpa using hy)with⟨q1,q3,q4⟩|⟨q1,q2,q3⟩
     ·exact .inl ⟨q1,by simp only[Ap];rw[q3,hne (by omega)],heid (by omega) q4⟩
     ·exact .inr ⟨q1,by simp only[Ap];exact q2,yes q3⟩
   ·cases k with
    |zero=>simp at hk
    |succ k=>
     obtain⟨q1,q2⟩:=s.new k y (by omega) (by simpa using hk) (by simpa using hy)
     exact⟨by simp only[Ap];exact q1,yes q2⟩
   ·cases k with
    |zero=>
     simp at hk
    |succ k=>
     obtain⟨q1,q2⟩:=s.high k (by omega) (by simpa using hk)
     exact⟨by simp only[Ap];rw[q1,hne (by omega)],heid (by omega) q2⟩
theorem HR.clean{w:World}{S:Nat→Prop}{ρ:Am}{h:Aa}(H:HR w S ρ (hf h)):HR w S ρ (hf (h.map CB.clean)):=by
 have get:∀(i:Nat) c,hf h i=some c→hf (h.map CB.clean) i=some c.clean:=fun i c hc=>by
  have hc':h[i]?=some c:=hc
  simp[hf,hc']
 refine⟨fun b cb co st sz hb=>?_,fun b hb=>by simpa [CB.clean]using get b _ (H.dead b hb),H.inj,H.old,fun b l hb=>?_,H.linj,H.lnS⟩
 ·obtain⟨c,e,fz,fl,rows,h1,h2,h3,h4⟩:=H.at_ b cb co st sz hb
  refine⟨c,e,fz,fl,rows,h1,h2,h3,?_⟩
  rcases h4 with⟨⟨wr,h4⟩,h5⟩|⟨h4,h5⟩
  ·exact .inl ⟨⟨false,get b _ h4⟩,h5⟩
  ·exact .inr ⟨get b _ h4,h5⟩
 ·obtain⟨r,ps,asg,body,tmps,st,h1,h2,h3⟩:=H.lps b l hb
  exact⟨r,ps,asg,body,tmps,st,h1,get b _ h2,h3⟩
theorem wH{c₀ c:CB}(h:c₀.quiet c=true):c₀.clean.same c=true:=by
 cases c₀<;>cases c<;>simp_all[CB.quiet,CB.clean,CB.same]
theorem HR.listed{w:World}{S:Nat→Prop}{ρ:Am}{g:HF}(H:HR w S ρ g){h:Aa}(hh:∀(i:Nat) c,h[i]?=some c→g i=some c)(hd:∀b,ρ b≠.fresh→b<h.length):HR w S ρ (hf h):=by
 have get:∀(i:Nat),ρ i≠.fresh→∀c,g i=some c→hf h i=some c:=fun i hi c hc=>by
  have hlt:=hd i hi
  have h1:=hh i _ (aa9 hlt)
  rw[hc]at h1;cases h1
  simp[hf,aa9 hlt]
 refine⟨fun b cb co st sz h=>?_,fun b h=>?_,H.inj,H.old,fun b l h=>?_,H.linj,H.lnS⟩
 ·obtain⟨c,e,fz,fl,rows,h1,h2,h3,h4⟩:=H.at_ b cb co st sz h
  have hn:ρ b≠.fresh:=by rw[h];simp
  refine⟨c,e,fz,fl,rows,h1,h2,h3,?_⟩
  rcases h4 with⟨⟨wr,h4⟩,h5⟩|⟨h4,h5⟩
  ·exact .inl ⟨⟨wr,get b hn _ h4⟩,h5⟩
  ·exact .inr ⟨get b hn _ h4,h5⟩
 ·exact get b (by rw[h];simp) _ (H.dead b h)
 ·obtain⟨r,ps,asg,body,tmps,st,h1,h4,h3⟩:=H.lps b l h
  exact⟨r,ps,asg,body,tmps,st,h1,get b (by rw[h];simp) _ h4,h3⟩
theorem pT{w w':World}{S S':Nat→Prop}{ρ ρ':Am}{g:HF}(H:HR w S ρ g){h h':Aa}(hh:∀(i:Nat) c,h[i]?=some c→g i=some c)(hno:∀b,h.length≤b→g b=none){v:AV}{cv:Value}(CP:Zi (h.map CB.clean) w S ρ v h' cv w' S' ρ'){es:List Ad}(hu:Ef 0 h h'=some es):
 VR w' S' ρ' v cv∧HR w' S' ρ' (Ap g es)∧Gv w w' S S' ρ ρ'∧Wb (Hl es) w w' ρ ρ'∧Xv es ρ ρ':=by
 obtain⟨hlen,sp⟩:=Qo hu
 have nof:∀b,ρ b≠.fresh→g b≠none:=fun b hb=>by
  cases hρ:ρ b with
  |fresh=>exact(hb hρ).elim
  |dead=>rw[H.dead b hρ];simp
  |lp l=>obtain⟨_,_,_,_,_,_,_,q,_⟩:=H.lps b l hρ;rw[q];simp
  |pl cb co st sz=>
   obtain⟨_,_,_,_,_,_,_,_,q⟩:=H.at_ b cb co st sz hρ
   rcases q with⟨⟨wr,q⟩,_⟩|⟨q,_⟩<;>(rw[q];simp)
 have frs:∀b,h.length≤b→ρ b=.fresh:=fun b hb=>by
  by_cases hρ:ρ b=.fresh
  ·exact hρ
  ·exact(nof b hρ (hno b hb)).elim
 have keep:∀b c₀ c,h[b]?=some c₀→h'[b]?=some c→c₀.quiet c=true→ρ' b=ρ b∧(∀cb co st sz,ρ b=.pl cb co st sz→w'.heap[cb]?=w.heap[cb]?):=fun b c₀ c h0 h1 hs=>
  CP.unw b c₀.clean c (by simp[h0]) h1 (wH hs)
 have look:∀b c,h'[b]?=some c→Ap g es b=some c∨Ap g es b=some c.mark∨∃c₀,h[b]?=some c₀∧c₀.quiet c=true∧Ap g es b=some c₀:=fun b c hc=>by
  by_cases hb:b<h.length
  ·have h0:h[b]?=some h[b]:=aa9 hb
   rcases(sp g b).both b _ c (by omega) h0 hc with⟨q1,q2,_⟩|⟨_,q4,_⟩
   ·exact .inr (.inr ⟨_,h0,q1,by rw[q2];exact hh b _ h0⟩)
   ·exact .inr (.inl q4)
  ·exact .inl ((sp g b).new b c (by omega) (by omega) hc).1
 refine⟨CP.vr,?_,CP.sim,?_,fun b=>?_⟩
 ·refine⟨fun b cb co st sz hρ=>?_,fun b hρ=>?_,CP.hr.inj,CP.hr.old,fun b l hρ=>?_,CP.hr.linj,CP.hr.lnS⟩
  ·obtain⟨ca,e,fz,fl,rows,a1,a2,a3,a4⟩:=CP.hr.at_ b cb co st sz hρ
   have hget:∃c,h'[b]?=some c:=by
    rcases a4 with⟨⟨wr,a4⟩,_⟩|⟨a4,_⟩<;>exact⟨_,a4⟩
   obtain⟨c,hc⟩:=hget
   rcases look b c hc with hl|hl|⟨c₀,h0,hs,k3⟩
   ·refine⟨ca,e,fz,fl,rows,a1,a2,a3,?_⟩
    rcases a4 with⟨⟨wr,a4⟩,a5⟩|⟨a4,a5⟩
    ·have:h'[b]?=some _:=a4
     rw[hc]at this;cases this
     exact .inl ⟨⟨wr,hl⟩,a5⟩
    ·have:h'[b]?=some _:=a4
     rw[hc]at this;cases this
     exact .inr ⟨hl,a5⟩
   ·refine⟨ca,e,fz,fl,rows,a1,a2,a3,?_⟩
    rcases a4 with⟨⟨wr,a4⟩,a5⟩|⟨a4,a5⟩
    ·have:h'[b]?=some _:=a4
     rw[hc]at this;cases this
     exact .inl ⟨⟨true,hl⟩,a5⟩
    ·have:h'[b]?=some _:=a4
     rw[hc]at this;cases this
     exact .inr ⟨hl,a5⟩
   ·obtain⟨k1,k2⟩:=keep b c₀ c h0 hc hs
    have hρ0:ρ b=.pl cb co st sz:=by rw[←k1];exact hρ
    obtain⟨ca',e',fz',fl',rows',b1,b2,b3,b4⟩:=H.at_ b cb co st sz hρ0
    have b1':=k2 _ _ _ _ hρ0
    rw[b1]at b1'
    refine⟨ca',e',fz',fl',rows',b1',b2,b3.sim CP.sim,?_⟩
    have hg:=hh b c₀ h0
    rw[k3]
    rcases b4 with⟨⟨wr,b4⟩,_⟩|⟨b4,b5⟩
    ·rw[hg]at b4;cases b4
     rcases a4 with⟨⟨wr',a4⟩,a5⟩|⟨a4,a5⟩
     ·rw[a1]at b1';cases b1'
      exact .inl ⟨⟨wr,rfl⟩,a5⟩
     ·have:h'[b]?=some _:=a4
      rw[hc]at this;cases this
      simp[CB.quiet,CB.same]at hs
    ·rw[hg]at b4;cases b4
     exact .inr ⟨rfl,CP.sim.sub _ b5⟩
  ·have hd:=CP.hr.dead b hρ
   rcases look b _ hd with hl|hl|⟨c₀,h0,hs,k3⟩
   ·exact hl
   ·exact hl
   ·rw[k3]
    cases c₀<;>first|rfl|(simp[CB.quiet,CB.same]at hs)
  ·obtain⟨r,ps,asg,body,tmps,st,b1,b2,b3⟩:=CP.hr.lps b l hρ
   rcases look b _ b2 with hl|hl|⟨c₀,h0,hs,k3⟩
   ·exact⟨r,ps,asg,body,tmps,st,b1,hl,b3⟩
   ·exact⟨r,ps,asg,body,tmps,st,b1,hl,b3⟩
   ·obtain⟨k1,_⟩:=keep b c₀ _ h0 b2 hs
    have hρ0:ρ b=.lp l:=by rw[←k1];exact hρ
    obtain⟨r0,ps0,asg0,body0,tmps0,st0,d1,d2,d3⟩:=H.lps b l hρ0
    rw[hh b c₀ h0]at d2;cases d2
    obtain⟨stq,peq,d4⟩:=CP.sim.loops l r0 d1
    rw[b1]at d4;cases d4
    refine⟨_,ps0,asg0,body0,tmps0,st0,b1,k3,d3.params,d3.assign,d3.body,d3.tmps.sim CP.sim,?_⟩
    have hst:=b3.state
    cases st0<;>cases st<;>simp[CB.quiet,CB.same]at hs<;>exact hst
 ·intro b cb co st sz hρ hn
  have hb:b<h.length:=by
   rcases adO b h.length with h1|h1
   ·exact h1
   ·rw[frs b h1]at hρ;cases hρ
  have h0:h[b]?=some h[b]:=aa9 hb
  have h1:h'[b]?=some (h'[b]'(by omega)):=aa9 (by omega)
  rcases(sp g b).both b _ _ (by omega) h0 h1 with⟨q1,_⟩|⟨_,_,q5⟩
  ·obtain⟨k1,k2⟩:=keep b _ _ h0 h1 q1
   exact⟨by rw[k1];exact hρ,k2 _ _ _ _ hρ⟩
  ·exact(hn q5).elim
 ·constructor
  ·intro hf'
   have hb:h'.length≤b:=by
    rcases adO b h'.length with h1|h1
    ·exact(CP.all b h1 hf').elim
    ·exact h1
   exact⟨frs b (by omega),((sp g b).high b (by omega) hb).2⟩
  ·rintro⟨hf',hn⟩
   refine CP.dom b ?_
   rcases adO b h'.length with h1|h1
   ·exfalso
    by_cases hb:b<h.length
    ·have h0:h[b]?=some h[b]:=aa9 hb
     rcases(sp g b).both b _ _ (by omega) h0 (aa9 h1)with⟨q1,_⟩|⟨_,_,q5⟩
     ·obtain⟨k1,_⟩:=keep b _ _ h0 (aa9 h1) q1
      exact CP.all b h1 (by rw[k1];exact hf')
     ·exact hn q5
    ·exact hn ((sp g b).new b _ (by omega) (by omega) (aa9 h1)).2
   ·exact h1
theorem qW:∀{cs:List CB} {n:Nat},Yv n (Iq n cs)
 | [],_=>trivial
 |_::cs,n=>⟨rfl,qW (cs:=cs)⟩
theorem aV:∀{h h':Aa} {i n:Nat} {es:List Ad},Ef i h h'=some es→n=i+h.length→Yv n es
 | [],h',i,n,es,hs,hn=>by
   simp only[Ef,adL.injEq]at hs
   subst hs
   simp at hn;subst hn
   exact qW
 |c₀::h,[],i,n,es,hs,_=>by simp[Ef]at hs
 |c₀::h,c::h',i,n,es,hs,hn=>by
  simp only[Ef]at hs
  simp only[aoH]at hn
  cases hq:c₀.quiet c with
  |true=>rw[hq]at hs;exact aV (h:=h) (h':=h') hs (by omega)
  |false=>
   rw[hq]at hs
   simp only[cond_false]at hs
   cases hlive:c₀.isLive with
   |false=>rw[hlive]at hs;simp at hs
   |true=>
    rw[hlive]at hs
    simp only[cond_true]at hs
    obtain⟨es',hs',rfl⟩:=acI.1 hs
    exact⟨by omega,aV hs' (by omega)⟩
theorem sZ{h h':Aa}{es:List Ad}(hu:Ef 0 h h'=some es):Eg h es:=by
 obtain⟨hlen,sp⟩:=Qo hu
 refine⟨aV hu (by omega),fun b hE hb=>?_,fun b hn=>?_⟩
 ·have h0:h[b]?=some h[b]:=aa9 hb
  rcases(sp (hf h) b).both b _ _ (by omega) h0 (aa9 (by omega:b<h'.length))with⟨_,_,q3⟩|⟨q3,q4,_⟩
  ·exact(q3 hE).elim
  ·exact⟨⟨_,h0,q3⟩,fun c hc=>by rw[q4]at hc;cases hc;exact ahZ _⟩
 ·by_cases hb:b<h.length
  ·have h0:h[b]?=some h[b]:=aa9 hb
   rcases(sp (hf h) b).both b _ _ (by omega) h0 (aa9 (by omega:b<h'.length))with⟨_,q2,_⟩|⟨_,_,q5⟩
   ·exact q2
   ·exact(hn q5).elim
  ·by_cases hb':b<h'.length
   ·exact(hn ((sp (hf h) b).new b _ (by omega) (by omega) (aa9 hb')).2).elim
   ·exact((sp (hf h) b).high b (by omega) (by omega)).1
def WF(F:Fence):Prop:=F=Fence.wide∨∃l,F=Fence.wide.inRound l
theorem WF.fn{F:Fence}(h:WF F)(f:FuncId):F.fn f:=by
 rcases h with rfl|⟨l,rfl⟩<;>exact trivial
theorem WF.depth{F:Fence}(h:WF F):F.depth=none:=by
 rcases h with rfl|⟨l,rfl⟩<;>rfl
theorem WF.calls{F:Fence}(h:WF F){n:Nat}{P:Program}{f:FuncId}{args:Array Value}{w:World}{R:Ending→World→Prop}(k:Calls P f args w R):CallsIn F n P f args w R:=by
 rcases h with rfl|⟨l,rfl⟩
 ·exact callsIn_wide.2 k
 ·exact(callsIn_wide (n:=n)).2 k
def sF(out:Ea)(cv:Value):Ending→Prop
 | .returned v=>(∃x,out=.ret x)∧v=cv
 | .panicked ch=>(∃x,out=.pan x)∧ch=[{ v:=cv,recovered:=false }]
 | .outgrown=>False
def Og(h0:Aa)(w:World)(S:Nat→Prop)(ρ:Am)(out:Ea)(h':Aa)(e:Ending)(w':World):Prop:=
 ∃cv S' ρ',sF out cv e∧Zi h0 w S ρ out.v h' cv w' S' ρ'
def Up(G:Nat→Option Obj)(w:World)(S:Nat→Prop):Prop:=∀b o,G b=some o→S b∧w.heap[b]?=some o
theorem Up.sim{G:Nat→Option Obj}{w w':World}{S S':Nat→Prop}{ρ ρ':Am}(h:Up G w S)(hs:Gv w w' S S' ρ ρ'):Up G w' S':=fun b o hb=>
 ⟨hs.sub b (h b o hb).1,by rw[hs.keep b (h b o hb).1];exact(h b o hb).2⟩
theorem Up.mono{G:Nat→Option Obj}{w:World}{S S':Nat→Prop}(h:Up G w S)(hS:∀b,S b→S' b):Up G w S':=fun b o hb=>⟨hS b (h b o hb).1,(h b o hb).2⟩
def avU(P:Program)(G:Nat→Option Obj)(O:Ez):Prop:=∀f args h out h',O.call (.fn f) args h=some (out,h')→
 (∀args w,(callFunc f args).run P w=.ok (.enter f args) w)∧
 ∀w S ρ (cargs:Array Value),Up G w S→HR w S ρ (hf h)→(∀b,h.length≤b→ρ b=.fresh)→(∀b,b<h.length→ρ b≠.fresh)→LR w S ρ args cargs.toList→Calls P f cargs w (Og h w S ρ out h')
def auL(P:Program)(G:Nat→Option Obj)(O:Ez):Prop:=∀f args h out h',O.call (.sh f) args h=some (out,h')→
 (∀args w,(callFunc f args).run P w=.ok (.enter f args) w)∧
 ∀w S ρ (cargs:Array Value),Up G w S→HR w S ρ (hf h)→(∀b,h.length≤b→ρ b=.fresh)→(∀b,b<h.length→ρ b≠.fresh)→LR w S ρ args cargs.toList→Calls P f cargs w (Og h w S ρ out h')
def aeF(P:Program)(G:Nat→Option Obj)(O:Ez):Prop:=∀args h out h',O.call .round args h=some (out,h')→
 ∀w S ρ (cargs:Array Value) l,Up G w S→HR w S ρ (hf h)→(∀b,h.length≤b→ρ b=.fresh)→(∀b,b<h.length→ρ b≠.fresh)→LR w S ρ args (cargs.toList++[.func (.yield l) #[] #[]])→
 ∃fn tmps asg body,(Instr.yield l cargs).run P w=.ok (.round l fn tmps asg body) w∧∀F nn,WF F→RoundIn F nn P l fn tmps asg body w (Og h w S ρ out h')
def Hv(P:Program)(G:Nat→Option Obj)(O:Ez):Prop:=avU P G O∧aeF P G O∧auL P G O
def jY(c:Uk)(f:Nat):Prop:=c=.fn f∨c=.sh f
theorem kE(f:Nat)(args:List AV):jY (Yj f args) f:=by
 unfold Yj jY
 split
 ·exact .inr rfl
 ·exact .inr rfl
 ·exact .inl rfl
def afB(f c:Uk):Prop:=c=f∨∃n,f=.sh n∧c=.fn n
theorem jY.to{c c':Uk}{f:Nat}(h:jY c f)(k:afB c c'):jY c' f:=by
 rcases k with rfl|⟨n,rfl,rfl⟩
 ·exact h
 ·rcases h with h|h
  ·cases h
  ·cases h;exact .inl rfl
def We(O:Ez)(f:Uk)(args:List AV):Prop:=∃n,f=.fn n∨f=.sh n∧(kV args||O.md n)=false
theorem We.eq{O:Ez}{f:Uk}{args:List AV}(h:We O f args):∃n,afB f (.fn n)∧∀g base,Fz O g base f args=Dy O g base (.fn n) args:=by
 obtain⟨n,rfl|⟨rfl,h⟩⟩:=h
 ·exact⟨n,.inl rfl,fun g base=>rfl⟩
 ·exact⟨n,.inr ⟨n,rfl,rfl⟩,fun g base=>by simp only[Fz,h,cond_false]⟩
theorem Ww{O:Ez}{f:Uk}{args:List AV}(h:¬We O f args)(g:HF)(base:Nat):Fz O g base f args=Jx O g base f args:=by
 cases f with
 |fn n=>exact(h ⟨n,.inl rfl⟩).elim
 |round=>rfl
 |sh n=>
  cases hq:(kV args||O.md n)with
  |true=>simp only[Fz,hq,cond_true]
  |false=>exact(h ⟨n,.inr ⟨rfl,hq⟩⟩).elim
section
variable {P:Program} {G:Nat→Option Obj} {O:Ez}
theorem dT{g:HF}{args:List AV}{x:AV}{b:Nat}(hx:x∈args)(hb:b∈Aw 12 g x):b∈args.flatMap (Aw 12 g):=adN.2 ⟨x,hx,hb⟩
theorem Zt{g:HF}:∀{d:Nat} {x x':AV},Gi d g x=some x'→∀b∈Aw d g x,g b≠none
 |0,_,_,h,_,_=>by simp[Gi]at h
 |d+1,x,x',h,b,hb=>by
  cases x with
  |slr st0 b0 r len=>
   simp only[Gi,abQ]at h
   obtain⟨⟨st,fl,rows⟩,hr,h⟩:=h
   simp only at h
   have hg:g b0≠none:=fun e=>by simp[Gf,e]at hr
   simp only[Aw,hr]at hb
   rcases adG.1 hb with rfl|hb
   ·exact hg
   ·split at h
    ·rename_i hfl;simp[hfl]at hb
    ·rename_i hfl
     simp only[hfl]at hb
     obtain⟨rows',ho,_⟩:=acI.1 h
     obtain⟨row,hrow,hb⟩:=adN.1 hb
     obtain⟨y,hy,hb⟩:=adN.1 hb
     obtain⟨i,hi,rfl⟩:=acQ.1 hrow
     obtain⟨row',h1,h2⟩:=Qv ho (aa9 hi)
     obtain⟨j,hj,rfl⟩:=acQ.1 hy
     obtain⟨y',h3,h4⟩:=Qv h2 (aa9 hj)
     exact Zt h4 b hb
  |agg cs=>
   obtain⟨cs',ho,_⟩:=acI.1 h
   simp only[Aw]at hb
   obtain⟨y,hy,hb⟩:=adN.1 hb
   obtain⟨j,hj,rfl⟩:=acQ.1 hy
   obtain⟨y',h3,h4⟩:=Qv ho (aa9 hj)
   exact Zt h4 b hb
  |iface t y=>
   obtain⟨y',ho,_⟩:=acI.1 h
   exact Zt ho b (by simpa [Aw]using hb)
  |_=>simp[Aw]at hb
theorem dR{g:HF}:∀{d:Nat} {x x':AV},Hh d g x=some x'→∀b∈Aw d g x,g b≠none
 |0,_,_,h,_,_=>by simp[Hh]at h
 |d+1,x,x',h,b,hb=>by
  cases x with
  |slr st0 b0 r len=>exact Zt (d:=d+1) (by simpa [Hh]using h) b hb
  |agg cs=>
   obtain⟨cs',ho,_⟩:=acI.1 h
   simp only[Aw]at hb
   obtain⟨y,hy,hb⟩:=adN.1 hb
   obtain⟨j,hj,rfl⟩:=acQ.1 hy
   obtain⟨y',h3,h4⟩:=Qv ho (aa9 hj)
   exact dR h4 b hb
  |iface t y=>
   obtain⟨y',ho,_⟩:=acI.1 h
   exact dR ho b (by simpa [Aw]using hb)
  |_=>simp[Aw]at hb
theorem xH{w:World}{S:Nat→Prop}{ρ:Am}{g:HF}(H:HR w S ρ g){base z:Nat}(hz:ρ z=.fresh)(hgf:∀b,g b≠none→ρ b≠.fresh){f:Uk}{args:List AV}{cargs:List Value}
 (hargs:LR w S ρ args cargs) (hmb:∀vs vs' cs m,As (Hh 12 g) args=some vs→Ku g [] vs=some (vs',cs,m)→∀b∈m,b<base) {d:Le} (hc:Dy O g base f args=some d)
 (hnew:∀b c,Ad.new b c∈d.es→ρ b=.fresh):
 ∃vs' h0 out h' Sc ρc,(∀b,S b→Sc b)∧O.call f vs' h0=some (out,h')∧HR w Sc ρc (hf h0)∧(∀b,h0.length≤b→ρc b=.fresh)∧(∀b,b<h0.length→ρc b≠.fresh)∧LR w Sc ρc vs' cargs∧
 ∀e w',Og h0 w Sc ρc out h' e w'→∃cv S' ρ',sF d.out cv e∧VR w' S' ρ' d.out.v cv∧HR w' S' ρ' (Ap g d.es)∧Gv w w' S S' ρ ρ'∧Wb (Hl d.es) w w' ρ ρ'∧Xv d.es ρ ρ':=by
 unfold Dy at hc
 simp only[abQ]at hc
 obtain⟨vs,hvs,⟨vs',cs,m⟩,hp,hc⟩:=hc
 simp only at hc
 have hmb:=hmb vs vs' cs m hvs hp
 split at hc
 ·simp at hc
 ·rename_i hlm0
  obtain⟨⟨out,h'⟩,hcall,hu⟩:=abQ.1 hc
  simp only at hu
  have hlm:∀b∈args.flatMap (Aw 12 g),b∉m:=fun b hb hm=>hlm0 (by
   rw[aj1];exact⟨b,hb,by simpa using hm⟩)
  obtain⟨p1,p2,p3,p4,p5,p6⟩:=iV hp
  have hnd:=p2 (by simp)
  have hmf:∀b∈m,ρ b≠.fresh:=fun b hb=>by
   obtain⟨j,hj,rfl⟩:=acQ.1 hb
   obtain⟨b',c,k1,k2,_⟩:=p4 j _ (aa9 (by omega:j<cs.length))
   rw[aa9 hj]at k1;cases k1
   exact hgf _ (by rw[k2];simp)
  have hlf:∀b∈args.flatMap (Aw 12 g),ρ b≠.fresh:=fun b hb=>by
   obtain⟨x,hx,hb⟩:=adN.1 hb
   obtain⟨j,hj,rfl⟩:=acQ.1 hx
   obtain⟨y',h3,h4⟩:=Qv hvs (aa9 hj)
   exact hgf b (dR h4 b hb)
  have hSc:∀b,S b→(S b∨acX ρ (args.flatMap (Aw 12 g)) b):=fun b hb=>.inl hb
  have H1:=yF (Sc:=fun b=>S b∨acX ρ (args.flatMap (Aw 12 g)) b) H hz hSc
   (fun b hb=>by rcases hb with hb|⟨id,_,co,st,sz,hρ⟩;exact H.old b hb;exact H.lt hρ) hnd p3 p4
   (fun b hb cb co st sz hρ hnS hs=>by
     rcases hs with hs|⟨id,Fe,co',st',sz',hρ'⟩
     ·exact hnS hs
     ·exact hlm id Fe ((H.inj _ _ _ _ _ _ _ _ _ hρ hρ')▸hb))
   (fun b l hρ hs=>by
     rcases hs with hs|⟨id,Fe,co',st',sz',hρ'⟩
     ·exact H.lnS _ _ hρ hs
     ·obtain⟨_,_,_,_,_,_,q1,_⟩:=H.lps _ _ hρ
      obtain⟨_,_,_,_,_,q2,_⟩:=H.at_ _ _ _ _ _ hρ'
      rw[q1]at q2;cases q2)
  have hlr:LR w (fun b=>S b∨acX ρ (args.flatMap (Aw 12 g)) b) (ρ.via m z) vs' cargs:=by
   obtain⟨o1,o2⟩:=Ei hvs
   refine⟨by rw[←p5,←o1];exact hargs.1,fun i x v hx hv=>?_⟩
   have hi:i<vs.length:=by rw[p5];exact(acR.1 hx).1
   obtain⟨m1,m2,k1,k2⟩:=p6 i _ x (aa9 hi) hx
   obtain⟨y,hy1,hy2⟩:=o2 i _ (aa9 hi)
   refine k1.vr z k2 (aM H hSc hy2 (hargs.2 i y v hy1 hv) (fun b hb cb co st sz hρ=>.inr ⟨b,dT (acL hy1) hb,co,st,sz,hρ⟩))
  have hdomc:∀b,(cs.map CB.clean).length≤b→ρ.via m z b=.fresh:=fun b hb=>by
   simp at hb
   unfold Am.via
   rw[adQ,aoK (by omega)]
   exact hz
  have hallc:∀b,b<(cs.map CB.clean).length→ρ.via m z b≠.fresh:=fun b hb=>by
   simp at hb
   have hb':b<m.length:=by omega
   rw[Am.via_at (adK _) (aa9 hb')]
   exact hmf _ (asD hb')
  have hnew':∀b,base≤b→b<base+(h'.length-m.length)→ρ b=.fresh:=fun b hb1 hb2=>by
   unfold Lm at hu
   simp only[abQ]at hu
   obtain⟨v,_,ps,_,ns,hns,hu⟩:=hu
   simp only[adL.injEq]at hu;subst hu
   obtain⟨c',_,_,k3⟩:=(Xg hns g b).2 (b-base) _ (by rw[alO];exact aa9 (by omega:m.length+(b-base)<h'.length)) (by omega)
   exact hnew b c' (aeY _ k3)
  refine⟨vs',_,out,h',_,ρ.via m z,hSc,hcall,H1,hdomc,hallc,hlr,fun e w' ⟨cv,Sc',ρc',he,CP⟩=>?_⟩
  obtain⟨S',ρ',k1,k2,k3,k4,k5⟩:=pL H hz hnd p3 p4 hmb hlm hmf hlf CP hnew' hu
  refine⟨cv,S',ρ',?_,k1,k2,k3,k4,k5⟩
  have hout:(∃x,out=.ret x)→∃x,d.out=.ret x:=by
   intro ⟨x,hx⟩
   unfold Lm at hu
   simp only[abQ]at hu
   obtain⟨v,_,ps,_,ns,_,hu⟩:=hu
   simp only[adL.injEq]at hu;subst hu;subst hx;exact⟨_,rfl⟩
  have hout2:(∃x,out=.pan x)→∃x,d.out=.pan x:=by
   intro ⟨x,hx⟩
   unfold Lm at hu
   simp only[abQ]at hu
   obtain⟨v,_,ps,_,ns,_,hu⟩:=hu
   simp only[adL.injEq]at hu;subst hu;subst hx;exact⟨_,rfl⟩
  cases e with
  |returned v=>exact⟨hout he.1,he.2⟩
  |panicked ch=>exact⟨hout2 he.1,he.2⟩
  |outgrown=>exact he
theorem nT{w:World}{S:Nat→Prop}{ρ:Am}{g:HF}(H:HR w S ρ g){base z:Nat}(hz:ρ z=.fresh)(hgf:∀b,g b≠none→ρ b≠.fresh){f:Uk}{args:List AV}{cargs:List Value}
 (hargs:LR w S ρ args cargs) (hmb:∀vs vs' cs m,As (Hh 12 g) args=some vs→Ku g [] vs=some (vs',cs,m)→We O f args→∀b∈m,b<base) {d:Le} (hc:Fz O g base f args=some d) (hall:Dp.all∈d.fs→∀b,base≤b→g b=none)
 (hnew:∀b c,Ad.new b c∈d.es→ρ b=.fresh):
 ∃c' vs' h0 out h' Sc ρc,afB f c'∧(∀b,S b→Sc b)∧O.call c' vs' h0=some (out,h')∧HR w Sc ρc (hf h0)∧(∀b,h0.length≤b→ρc b=.fresh)∧(∀b,b<h0.length→ρc b≠.fresh)∧LR w Sc ρc vs' cargs∧
 ∀e w',Og h0 w Sc ρc out h' e w'→∃cv S' ρ',sF d.out cv e∧VR w' S' ρ' d.out.v cv∧HR w' S' ρ' (Ap g d.es)∧Gv w w' S S' ρ ρ'∧Wb (Hl d.es) w w' ρ ρ'∧Xv d.es ρ ρ':=by
 have sh:Jx O g base f args=some d→∃vs' h0 out h' Sc ρc,(∀b,S b→Sc b)∧O.call f vs' h0=some (out,h')∧HR w Sc ρc (hf h0)∧(∀b,h0.length≤b→ρc b=.fresh)∧(∀b,b<h0.length→ρc b≠.fresh)∧LR w Sc ρc vs' cargs∧
  ∀e w',Og h0 w Sc ρc out h' e w'→∃cv S' ρ',sF d.out cv e∧VR w' S' ρ' d.out.v cv∧HR w' S' ρ' (Ap g d.es)∧Gv w w' S S' ρ ρ'∧Wb (Hl d.es) w w' ρ ρ'∧Xv d.es ρ ρ':=fun hc=>by
  unfold Jx at hc
  obtain⟨h,hh,hc⟩:=abQ.1 hc
  obtain⟨⟨out,h'⟩,hcall,hc⟩:=abQ.1 hc
  obtain⟨es,hes,rfl⟩:=acI.1 hc
  obtain⟨hl,hg⟩:=amQ hh
  have hno:∀b,h.length≤b→g b=none:=fun b hb=>hall (by simp) b (by omega)
  have nof:∀b,ρ b≠.fresh→b<h.length:=fun b hb=>by
   rcases adO b h.length with h1|h1
   ·exact h1
   ·have hn:=hno b h1
    cases hρ:ρ b with
    |fresh=>exact(hb hρ).elim
    |dead=>rw[H.dead b hρ]at hn;cases hn
    |lp l=>obtain⟨_,_,_,_,_,_,_,q,_⟩:=H.lps b l hρ;rw[q]at hn;cases hn
    |pl cb co st sz=>
     obtain⟨_,_,_,_,_,_,_,_,q⟩:=H.at_ b cb co st sz hρ
     rcases q with⟨⟨wr,q⟩,_⟩|⟨q,_⟩<;>(rw[q]at hn;cases hn)
  refine⟨args,h.map CB.clean,out,h',S,ρ,fun _ h=>h,hcall,(H.listed hg nof).clean,fun b hb=>?_,fun b hb=>?_,hargs,fun e w' ⟨cv,S',ρ',he,CP⟩=>?_⟩
  ·simp only[as7]at hb
   by_cases hρ:ρ b=.fresh
   ·exact hρ
   ·have:=nof b hρ;omega
  ·simp only[as7]at hb
   exact hgf b (by rw[hg b _ (aa9 hb)];simp)
  ·obtain⟨k1,k2,k3,k4,k5⟩:=pT H hg hno CP hes
   exact⟨cv,S',ρ',he,k1,k2,k3,k4,k5⟩
 by_cases hp:We O f args
 ·obtain⟨n,k1,k2⟩:=hp.eq
  rw[k2]at hc
  obtain⟨vs',h0,out,h',Sc,ρc,q⟩:=xH (f:=.fn n) H hz hgf hargs (fun vs vs' cs m h1 h2=>hmb vs vs' cs m h1 h2 hp) hc hnew
  exact⟨_,vs',h0,out,h',Sc,ρc,k1,q⟩
 ·rw[Ww hp]at hc
  obtain⟨vs',h0,out,h',Sc,ρc,q⟩:=sh hc
  exact⟨f,vs',h0,out,h',Sc,ρc,.inl rfl,q⟩
theorem jI(hO:Hv P G O){w:World}{S:Nat→Prop}(hI:Up G w S){ρ:Am}{g:HF}(H:HR w S ρ g){base z:Nat}(hz:ρ z=.fresh)(hgf:∀b,g b≠none→ρ b≠.fresh){c:Uk}{f:Nat}(hcf:jY c f){args:List AV}{cargs:Array Value}
 (hargs:LR w S ρ args cargs.toList) (hmb:∀vs vs' cs m,As (Hh 12 g) args=some vs→Ku g [] vs=some (vs',cs,m)→We O c args→∀b∈m,b<base) {d:Le} (hc:Fz O g base c args=some d) (hall:Dp.all∈d.fs→∀b,base≤b→g b=none)
 (hnew:∀b c,Ad.new b c∈d.es→ρ b=.fresh):
 (∀args w,(callFunc f args).run P w=.ok (.enter f args) w)∧
 Calls P f cargs w fun e w'=>∃cv S' ρ',sF d.out cv e∧VR w' S' ρ' d.out.v cv∧HR w' S' ρ' (Ap g d.es)∧Gv w w' S S' ρ ρ'∧Wb (Hl d.es) w w' ρ ρ'∧Xv d.es ρ ρ':=by
 obtain⟨c',vs',h0,out,h',Sc,ρc,kc,k0,k1,k2,k3,k4,k5,k6⟩:=nT H hz hgf hargs hmb hc hall hnew
 rcases hcf.to kc with rfl|rfl
 ·obtain⟨henter,hok⟩:=hO.1 f vs' _ out h' k1
  exact⟨henter,(hok w _ _ cargs (hI.mono k0) k2 k3 k4 k5).mono k6⟩
 ·obtain⟨henter,hok⟩:=hO.2.2 f vs' _ out h' k1
  exact⟨henter,(hok w _ _ cargs (hI.mono k0) k2 k3 k4 k5).mono k6⟩
theorem fM(hO:Hv P G O){w:World}{S:Nat→Prop}(hI:Up G w S){ρ:Am}{g:HF}(H:HR w S ρ g){base z:Nat}(hz:ρ z=.fresh)(hgf:∀b,g b≠none→ρ b≠.fresh){args:List AV}{cargs:Array Value}{l:Nat}
 (hargs:LR w S ρ args (cargs.toList++[.func (.yield l) #[] #[]])) {d:Le} (hc:Fz O g base .round args=some d) (hall:Dp.all∈d.fs→∀b,base≤b→g b=none)
 (hnew:∀b c,Ad.new b c∈d.es→ρ b=.fresh):
 ∃fn tmps asg body,(Instr.yield l cargs).run P w=.ok (.round l fn tmps asg body) w∧∀F nn,WF F→RoundIn F nn P l fn tmps asg body w fun e w'=>∃cv S' ρ',sF d.out cv e∧VR w' S' ρ' d.out.v cv∧HR w' S' ρ' (Ap g d.es)∧Gv w w' S S' ρ ρ'∧Wb (Hl d.es) w w' ρ ρ'∧Xv d.es ρ ρ':=by
 obtain⟨c',vs',h0,out,h',Sc,ρc,kc,k0,k1,k2,k3,k4,k5,k6⟩:=nT H hz hgf hargs (fun _ _ _ _ _ _ ⟨_,h⟩=>by rcases h with h|h<;>simp at h) hc hall hnew
 obtain rfl:c'=.round:=by
  rcases kc with rfl|⟨n,h,_⟩
  ·rfl
  ·cases h
 obtain⟨fn,tmps,asg,body,q1,q2⟩:=hO.2.1 vs' _ out h' k1 w _ _ cargs l (hI.mono k0) k2 k3 k4 k5
 exact⟨fn,tmps,asg,body,q1,fun F nn hF=>(q2 F nn hF).mono k6⟩
theorem tH{h:Aa}{c:Uk}{args:List AV}{d:Le}(hc:Dy O (hf h) h.length c args=some d):Eg h d.es:=by
 unfold Dy at hc
 simp only[abQ]at hc
 obtain⟨vs,hvs,⟨vs',cs,m⟩,hp,hc⟩:=hc
 simp only at hc
 split at hc
 ·simp at hc
 ·rename_i hlm0
  obtain⟨⟨out,h'⟩,hcall,hu⟩:=abQ.1 hc
  obtain⟨p1,p2,p3,p4,p5,p6⟩:=iV hp
  exact uC (p2 (by simp)) p3 p4 (fun b hb hm=>hlm0 (by rw[aj1];exact⟨b,hb,by simpa using hm⟩)) hu
theorem tO{h:Aa}{c:Uk}{args:List AV}{d:Le}(hc:Jx O (hf h) h.length c args=some d):Eg h d.es:=by
 unfold Jx at hc
 rw[ae8]at hc
 simp only[aoF]at hc
 obtain⟨⟨out,h'⟩,hcall,hc⟩:=abQ.1 hc
 obtain⟨es,hes,rfl⟩:=acI.1 hc
 exact sZ hes
theorem aY{h:Aa}{c:Uk}{args:List AV}{d:Le}(hc:Fz O (hf h) h.length c args=some d):Eg h d.es:=by
 by_cases hp:We O c args
 ·obtain⟨n,_,k2⟩:=hp.eq
  rw[k2]at hc
  exact tH hc
 ·rw[Ww hp]at hc
  exact tO hc
theorem zL{h:Aa}{vs vs':List AV}{cs:List CB}{m:List Nat}(hp:Ku (hf h) [] vs=some (vs',cs,m)):∀b∈m,b<h.length:=fun b hb=>by
 obtain⟨p1,p2,p3,p4,p5,p6⟩:=iV hp
 obtain⟨j,hj,rfl⟩:=acQ.1 hb
 obtain⟨b',c,k1,k2,_⟩:=p4 j _ (aa9 (by omega:j<cs.length))
 rw[aa9 hj]at k1;cases k1
 exact Lc k2
theorem Vv:∀{es:List Ad} {n:Nat},Yv n es→∀b c,Ad.new b c∈es→n≤b
 | [],_,_,b,c,h=>by simp at h
 | .new i c'::es,n,ok,b,c,h=>by
   rcases adG.1 h with h|h
   ·cases h;exact Nat.le_of_eq ok.1.symm
   ·have:=Vv ok.2 b c h;omega
 | .cells i r o vs::es,n,ok,b,c,h=>by
   rcases adG.1 h with h|h
   ·cases h
   ·exact Vv ok.2 b c h
 | .put i c'::es,n,ok,b,c,h=>by
   rcases adG.1 h with h|h
   ·cases h
   ·exact Vv ok.2 b c h
theorem qD{h:Aa}{b:Nat}(hb:h.length≤b):hf h b=none:=aoK hb
theorem fX(hO:Hv P G O){h0:Aa}{w0:World}{S0:Nat→Prop}(hI:Up G w0 S0){ρ0:Am}{h:Aa}{w:World}{S:Nat→Prop}{ρ:Am}(FF:FI h0 w0 S0 ρ0 h w S ρ){c:Uk}{f:Nat}(hcf:jY c f){args:List AV}{cargs:Array Value}
 (hargs:LR w S ρ args cargs.toList) {d:Le} (hc:Fz O (hf h) h.length c args=some d):
 (∀args w,(callFunc f args).run P w=.ok (.enter f args) w)∧
 Calls P f cargs w fun e w'=>∃cv S' ρ',sF d.out cv e∧VR w' S' ρ' d.out.v cv∧FI h0 w0 S0 ρ0 (Ar h d.es) w' S' ρ'∧Gv w w' S S' ρ ρ':=by
 have hgood:=aY hc
 obtain⟨h1,h2⟩:=jI hO (hI.sim FF.sim) FF.hr (FF.dom _ (adM _)) (fun b hb=>FF.all b (by
  cases hg:hf h b with
  |none=>exact(hb hg).elim
  |some c=>exact Lc hg)) hcf hargs (fun vs vs' cs m _ hp _=>zL hp) hc (fun _ b hb=>qD hb) (fun b c hb=>FF.dom b (Vv hgood.ok b c hb))
 exact⟨h1,h2.mono fun e w' ⟨cv,S',ρ',q1,q2,q3,q4,q5,q6⟩=>⟨cv,S',ρ',q1,q2,FF.step hgood q3 q4 q5 q6,q4⟩⟩
theorem pY(hO:Hv P G O){h0:Aa}{w0:World}{S0:Nat→Prop}(hI:Up G w0 S0){ρ0:Am}{h:Aa}{w:World}{S:Nat→Prop}{ρ:Am}(FF:FI h0 w0 S0 ρ0 h w S ρ){args:List AV}{cargs:Array Value}{l:Nat}
 (hargs:LR w S ρ args (cargs.toList++[.func (.yield l) #[] #[]])) {d:Le} (hc:Fz O (hf h) h.length .round args=some d):
 ∃fn tmps asg body,(Instr.yield l cargs).run P w=.ok (.round l fn tmps asg body) w∧∀F nn,WF F→RoundIn F nn P l fn tmps asg body w fun e w'=>∃cv S' ρ',sF d.out cv e∧VR w' S' ρ' d.out.v cv∧FI h0 w0 S0 ρ0 (Ar h d.es) w' S' ρ'∧Gv w w' S S' ρ ρ':=by
 have hgood:=aY hc
 obtain⟨fn,tmps,asg,body,h1,h2⟩:=fM hO (hI.sim FF.sim) FF.hr (FF.dom _ (adM _)) (fun b hb=>FF.all b (by
  cases hg:hf h b with
  |none=>exact(hb hg).elim
  |some c=>exact Lc hg)) hargs hc (fun _ b hb=>qD hb) (fun b c hb=>FF.dom b (Vv hgood.ok b c hb))
 exact⟨fn,tmps,asg,body,h1,fun F nn hF=>(h2 F nn hF).mono fun e w' ⟨cv,S',ρ',q1,q2,q3,q4,q5,q6⟩=>⟨cv,S',ρ',q1,q2,FF.step hgood q3 q4 q5 q6,q4⟩⟩
theorem Fp(isG:Bool)(v:AV)(k:AV→R):zC isG v k=k v:=by
 unfold zC
 cases isG with
 |false=>rfl
 |true=>
  cases v with
  |bool b=>cases b<;>rfl
  |_=>rfl
theorem Qi{ops:Array Oper}{w:World}{S:Nat→Prop}{ρ:Am}{tmps:List AV}{a:Act}(T:TR w S ρ tmps a.tmps){o:Oper}{b:Bool}(h:Fb ops.toList tmps o=some b):Region.wanted o (yielded ops a.tmps)=b:=by
 unfold Fb at h
 unfold Region.wanted
 cases hg:o.guard with
 |none=>rw[hg]at h;simp at h;subst h;rfl
 |some jw=>
  obtain⟨j,want⟩:=jw
  rw[hg]at h
  simp only at h ⊢
  rw[Array.getElem?_toList]at h
  unfold yielded
  cases hd:(ops[j]?).bind (·.dst)with
  |none=>rw[hd]at h;simp at h
  |some d=>
   rw[hd]at h
   simp only[aoF]at h ⊢
   have hv:=Xj T d
   cases hx:a.tmps[d]? with
   |none=>
    have hu:a.tmps.getD d undef=undef:=by rw[as8,hx];rfl
    rw[hu]at hv
    split at h
    ·rename_i b' ht;rw[ht]at hv;unfold undef at hv;cases hv
    ·simp at h;subst h;rfl
    ·simp at h
   |some x=>
    have hu:a.tmps.getD d undef=x:=by rw[as8,hx];rfl
    rw[hu]at hv
    split at h
    ·rename_i b' ht;rw[ht]at hv;cases hv;simp at h;subst h;rfl
    ·rename_i ht;rw[ht]at hv;cases hv;simp at h;subst h;rfl
    ·simp at h
end
def rG:Target→Option Nat
 | .collected r=>some r
 |_=>none
structure xT where
 h0:Aa
 w0:World
 S0:Nat→Prop
 ρ0:Am
 ro:Option Nat
def tJ(w0 w:World)(S:Nat→Prop)(ds:List Deferred):Prop:=∀d∈ds,∃r,d={ target:=.collected r,args:=#[] }∧w.heap[r]?=some (.deferred (some []))∧¬S r∧w0.heap.size≤r
def Qz(B:xT)(s:St)(a:Act)(w:World)(S:Nat→Prop)(ρ:Am):Prop:=
 FI B.h0 B.w0 B.S0 B.ρ0 s.h w S ρ∧TR w S ρ s.tmps a.tmps∧tJ B.w0 w S a.defers∧a.defers.Pairwise (fun d e=>rG d.target≠rG e.target)∧∀l,B.ro=some l→∃r,w.heap[l]?=some (.loop r)
def iR(w:World)(S:Nat→Prop)(ρ:Am):Ex→Exit→Prop
 | .normal,.normal=>True
 | .exit i,.exit j=>i=j
 | .ret,.ret=>True
 | .pan v,.panic ch=>∃cv,VR w S ρ v cv∧ch=[{ v:=cv,recovered:=false }]
 |_,_=>False
def uV(B:xT)(e:Ex)(s:St)(ex:Exit)(a:Act)(w:World):Prop:=∃S ρ,Qz B s a w S ρ∧iR w S ρ e ex
def OQ(B:xT)(k:St→Xm→R)(kp:AV→St→R)(r:Ex × St):Exit→Act→World→Prop
 | .normal,a,w=>∃s log S ρ,k s log=some r∧Qz B s a w S ρ
 | .panic ch,a,w=>∃v s S ρ cv,kp v s=some r∧Qz B s a w S ρ∧VR w S ρ v cv∧ch=[{ v:=cv,recovered:=false }]
 |_,_,_=>False
section
variable {P:Program} {G:Nat→Option Obj} {O:Ez} {F:Fence} {nn:Nat}
theorem bW{o:Op}{d:Jl}{g:HF}{base:Nat}{tmps:List AV}(h:exec P g base tmps o=some d):∀c,o≠.defer c:=fun c e=>by subst e;simp[exec]at h
theorem kM(a:Act)(d:Option Nat)(v:Value):(a.put d v).defers=a.defers:=by cases d<;>rfl
theorem Qz.put{B:xT}{s:St}{a:Act}{w:World}{S:Nat→Prop}{ρ:Am}(h:Qz B s a w S ρ)(d:Option Nat){x:AV}{v:Value}(k:VR w S ρ x v):Qz B ⟨Ev.put s.tmps d x,s.h⟩ (a.put d v) w S ρ:=
 ⟨h.1,mZ h.2.1 d k,by rw[kM];exact h.2.2⟩
theorem tJ.later{w0 w w':World}{S S':Nat→Prop}{ρ ρ':Am}{g:HF}{ds:List Deferred}(h:tJ w0 w S ds)(H:HR w S ρ g)(hs:Gv w w' S S' ρ ρ'):tJ w0 w' S' ds:=fun d hd=>by
 obtain⟨r,k1,k2,k3,k4⟩:=h d hd
 refine⟨r,k1,hs.objs r _ k2 rfl,fun h'=>?_,k4⟩
 rcases hs.grow r h' with q|q|⟨id,co,st,sz,q⟩
 ·exact k3 q
 ·have:=(ae4.1 k2).1;omega
 ·obtain⟨c,e,fz,fl,rows,q1,_⟩:=H.at_ _ _ _ _ _ q
  rw[k2]at q1;cases q1
theorem Qz.later{B:xT}{s:St}{a:Act}{w w':World}{S S':Nat→Prop}{ρ ρ':Am}(h:Qz B s a w S ρ){h':Aa}(hF:FI B.h0 B.w0 B.S0 B.ρ0 h' w' S' ρ')(hs:Gv w w' S S' ρ ρ'):Qz B ⟨s.tmps,h'⟩ a w' S' ρ':=
 ⟨hF,LR.sim hs h.2.1,h.2.2.1.later h.1.hr hs,h.2.2.2.1,fun l hl=>by
   obtain⟨r,hr⟩:=h.2.2.2.2 l hl
   obtain⟨st,pe,k⟩:=hs.loops l r hr
   exact⟨_,k⟩⟩
theorem fU(hF:WF F)(hO:Hv P G O){ops:Array Oper}{B:xT}(hI:Up G B.w0 B.S0){k:St→Xm→R}{kp:AV→St→R}{r:Ex × St}:∀{rest:List Oper} {i:Nat} {s:St} {log:Xm} {a:Act} {w:World} {S:Nat→Prop} {ρ:Am},
 (∀j o,rest[j]?=some o→ops[i+j]?=some o)→Fv O P ops.toList (Uw ops.toList) rest i s log k kp=some r→Qz B s a w S ρ→wpOpsIn F nn P ops (OQ B k kp r) (aoC i rest.length) a w
 | [],i,s,log,a,w,S,ρ,_,h,hs=>⟨s,log,S,ρ,h,hs⟩
 |o::rest,i,s,log,a,w,S,ρ,hops,h,hs=>by
  have ho:ops[i]?=some o:=by have:=hops 0 o rfl;simpa using this
  have hrest:∀j o',rest[j]?=some o'→ops[i+1+j]?=some o':=fun j o' hj=>by have:=hops (j+1) o' (by simpa using hj);rw[←this];congr 1;omega
  have IH:∀{s':St} {log':Xm} {a':Act} {w':World} {S':Nat→Prop} {ρ':Am},Fv O P ops.toList (Uw ops.toList) rest (i+1) s' log' k kp=some r→Qz B s' a' w' S' ρ'→wpOpsIn F nn P ops (OQ B k kp r) (aoC (i+1) rest.length) a' w':=fun h' hs'=>fU hF hO hI hrest h' hs'
  have habout:∀f,o.about P w a.eval=some f→F.fn f:=fun f _=>hF.fn f
  simp only[aoH,aoP]
  unfold wpOpsIn
  simp only[ho]
  unfold Fv at h
  split at h
  ·simp at h
  ·rename_i hw
   rw[Qi hs.2.1 hw]
   simp only[Bool.false_eq_true,if_false]
   exact⟨habout,IH h (hs.put o.dst Vx)⟩
  ·rename_i hw
   rw[Qi hs.2.1 hw]
   simp only[if_true]
   refine⟨habout,?_⟩
   cases hk:Gm o.op with
   |call c=>
    rw[hk]at h
    simp only[abQ]at h
    obtain⟨⟨fc,args⟩,hcal,d,hd,h⟩:=h
    have hop:o.op=.call c∧∀b,c.callee≠.builtin b:=by
     unfold Gm at hk
     split at hk<;>simp at hk
     rename_i c' hnb hop
     subst hk
     exact⟨hop,fun b e=>by obtain⟨cal,as,ts⟩:=c';simp at e;subst e;exact hnb b as ts rfl⟩
    obtain⟨hop,hnb⟩:=hop
    have hsem:o.semAt F.round a.eval=execOp a.eval o:=Oper.semAt_eq _ _ _ (fun c e=>by rw[hop]at e;cases e)
    rw[hsem]
    unfold callee at hcal
    split at hcal
    ·rename_i fo hfo
     simp only[abQ]at hcal
     obtain⟨fv,hfv,vs,hvs,hcal⟩:=hcal
     have hfr:=Ao hs.2.1 hfv
     have hvr:=Kr hs.2.1 hvs
     generalize hfe:a.eval fo=cf at hfr
     split at hcal
     ·rename_i f fa fb
      simp only[adL.injEq,Prod.mk.injEq]at hcal
      obtain⟨rfl,rfl⟩:=hcal
      simp only at hd
      cases hfr with
      | @func _ _ _ _ va vc q1 q2 q3 q4=>
        have hlr:LR w S ρ (fa++vs++fb) (va++c.args.map a.eval++vc).toList:=by
         have e1:(va++c.args.map a.eval++vc).toList=va.toList++c.args.toList.map a.eval++vc.toList:=by simp
         rw[e1]
         exact(LR.append (LR.append ⟨by simpa using q1,fun i x v hx hv=>q3 i x v hx (by simpa using hv)⟩ hvr) ⟨by simpa using q2,fun i x v hx hv=>q4 i x v hx (by simpa using hv)⟩)
        obtain⟨henter,hcalls⟩:=fX hO hI hs.1 (kE _ _) hlr hd
        have hrun:(execOp a.eval o).run P w=.ok (.enter f (va++c.args.map a.eval++vc)) w:=by
         simp only[execOp,hop,Sem.run_bind,resolve,hfo,hfe,Deferred.ofValue,Sem.run_pure,Result.andThen_ok,invoke]
         rw[henter]
        rw[hrun]
        refine⟨fun hdp=>by rw[hF.depth]at hdp;simp at hdp,hF.calls (hcalls.mono fun e w' ⟨cv,S',ρ',he,hv,hFI,hsim⟩=>?_)⟩
        have hs':=hs.later hFI hsim
        cases e with
        |returned v=>
         obtain⟨⟨x,hx⟩,rfl⟩:=he
         rw[hx]at h hv
         simp only[Fp]at h
         exact IH h (hs'.put o.dst hv)
        |panicked ch=>
         obtain⟨⟨x,hx⟩,rfl⟩:=he
         rw[hx]at h hv
         exact⟨x,_,S',ρ',cv,h,hs',hv,rfl⟩
        |outgrown=>exact he.elim
     ·rename_i b
      simp only[adL.injEq,Prod.mk.injEq]at hcal
      obtain⟨rfl,rfl⟩:=hcal
      simp only at hd
      have hyl:∃l,cf=.func (.yield l) #[] #[]:=by cases hfr<;>exact⟨_,rfl⟩
      obtain⟨l,rfl⟩:=hyl
      have hlr:LR w S ρ (vs++[.yl b]) ((c.args.map a.eval).toList++[.func (.yield l) #[] #[]]):=LR.append (by simpa using hvr) (.cons hfr .nil)
      obtain⟨fn,tmps,asg,body,hy,hround⟩:=pY hO hI hs.1 hlr hd
      have hrun:(execOp a.eval o).run P w=.ok (.round l fn tmps asg body) w:=by
       simp only[execOp,hop,Sem.run_bind,resolve,hfo,hfe,Deferred.ofValue,Sem.run_pure,Result.andThen_ok,invoke]
       simpa using hy
      rw[hrun]
      refine⟨fun hdp=>by rw[hF.depth]at hdp;simp at hdp,(hround F _ hF).mono fun e w' ⟨cv,S',ρ',he,hv,hFI,hsim⟩=>?_⟩
      have hs':=hs.later hFI hsim
      cases e with
      |returned v=>
       obtain⟨⟨x,hx⟩,rfl⟩:=he
       rw[hx]at h hv
       simp only[Fp]at h
       exact IH h (hs'.put o.dst hv)
      |panicked ch=>
       obtain⟨⟨x,hx⟩,rfl⟩:=he
       rw[hx]at h hv
       exact⟨x,_,S',ρ',cv,h,hs',hv,rfl⟩
      |outgrown=>exact he.elim
     ·simp at hcal
    ·simp at hcal
   |panic x=>
    rw[hk]at h
    simp only[abQ]at h
    obtain⟨v,hv,h⟩:=h
    have hop:o.op=.panic x:=by
     unfold Gm at hk
     split at hk<;>simp at hk
     rename_i x' hop;subst hk;exact hop
    have hsem:o.semAt F.round a.eval=execOp a.eval o:=Oper.semAt_eq _ _ _ (fun c e=>by rw[hop]at e;cases e)
    rw[hsem]
    have hvr:=Ao hs.2.1 hv
    split at h
    ·rename_i t' y'
     generalize hce:a.eval x=cc at hvr
     cases hvr with
     | @iface _ _ _ cv' hy=>
       have hrun:(execOp a.eval o).run P w=.halt (.panic (.iface t' cv')) w:=by
        simp only[execOp,hop,Sem.run_bind,hce,Instr.panic,run_goPanic,Result.andThen_halt]
       rw[hrun]
       exact⟨_,s,S,ρ,_,h,hs,.iface hy,rfl⟩
    ·simp at h
   |other=>
    rw[hk]at h
    simp only[abQ,Fp]at h
    obtain⟨d,hd,h⟩:=h
    have hsem:o.semAt F.round a.eval=execOp a.eval o:=Oper.semAt_eq _ _ _ (bW hd)
    rw[hsem]
    obtain⟨cv,w',ρ',hran,hv,hHR,hsim,hloc,hfrs⟩:=jL hs.1.hr (hs.1.dom _ (adM _)) hs.2.1 hd
    have hFI:=hs.1.step (nH hd) hHR hsim hloc hfrs
    have hs':=(hs.later hFI hsim).put o.dst hv
    rcases hran with hran|⟨hran,rfl⟩
    ·rw[hran];exact IH h hs'
    ·rw[hran];exact IH h hs'
def dB(P:Program)(G:Nat→Option Obj)(O:Ez):Prop:=∀c s e s',O.loop c s=some (e,s')→∀(F:Fence) (nn:Nat),WF F→∀B a w S ρ,B.ro=F.round→Up G B.w0 B.S0→Qz B s a w S ρ→(Code.loop c).wpIn F nn P (uV B e s') a w
def bX(P:Program)(G:Nat→Option Obj)(O:Ez):Prop:=∀(ops:Array Oper) (B:xT) (k:St→Xm→R) (r:Ex × St) (s:St) (a:Act) (w:World) (S:Nat→Prop) (ρ:Am) (id:Nat) (F:Fence) (nn:Nat),WF F→
 Ov ops.toList=true→Fv O P ops.toList (Uw ops.toList) ops.toList 0 s [] (fun s log=>Ha (Eu ops.toList log) (k s log)) (fun _ _=>none)=some r→Up G B.w0 B.S0→Qz B s a w S ρ→
 (Code.region id ops true).wpIn F nn P (OQ B k (fun _ _=>none) r) a w
def Wt:Qb→Option Ex
 | .ready=>some .normal
 | .done .ret=>some .ret
 | .done (.exit i)=>some (.exit i)
 |_=>none
def Yi(P:Program)(G:Nat→Option Obj)(O:Ez):Prop:=∀f (ps:Array Nat) asg body (s:St) g fa fb d v ps' asg' body' tm' st e,Af s.tmps f=some (.func (.func g) fa fb)→
 Fz O (hf (s.h++[.lp ps.toList asg body s.tmps .ready])) (s.h.length+1) (Yj g (fa++[.yl s.h.length]++fb)) (fa++[.yl s.h.length]++fb)=some d→d.out=.ret v→
 (Ar (s.h++[.lp ps.toList asg body s.tmps .ready]) d.es)[s.h.length]?=some (.lp ps' asg' body' tm' st)→Wt st=some e→
 ∀(F:Fence) (nn:Nat),WF F→∀B a w S ρ,B.ro=F.round→Up G B.w0 B.S0→Qz B s a w S ρ→
  (Code.rangeFunc f ps asg body).wpIn F nn P (uV B e ⟨s.tmps,(Ar (s.h++[.lp ps.toList asg body s.tmps .ready]) d.es).set s.h.length .dead⟩) a w
theorem Ni{b:Frame}{a:Act}{k:List Item}{cs:List Frame}{w:World}{c:Code}:step P (lone (b.atR a (.code (.scope c)::k)) cs w)=.next (lone (b.atR a (.code c::.inScope c::k)) cs w):=
 step_lone_go (by simp[stepG,stepG.exec,Frame.atR])
theorem lX{b:Frame}{a:Act}{k:List Item}{cs:List Frame}{w:World}{c:Code}:step P (lone (b.atR a (.inScope c::k)) cs w)=.next (lone (b.atR a k) cs w):=
 step_lone_go (by simp[stepG,stepG.exec,Frame.atR])
def ar0(Q:Exit→Act→World→Prop):Exit→Act→World→Prop
 | .goto _,_,_=>False
 |e,a,w=>Q e a w
theorem vP{F:Fence}{n:Nat}{c:Code}{Q:Exit→Act→World→Prop}{a:Act}{w:World}(h:c.wpIn F n P (ar0 Q) a w):(Code.scope c).wpIn F n P Q a w:=by
 intro b k cs hro hb hr
 have h0:(lone (b.atR a (.code (.scope c)::k)) cs w).fenced P F:=fenced_calm hb hr rfl
 obtain⟨e,a₁,w₁,hq,harr⟩:=h b (.inScope c::k) cs hro hb hr
 cases e with
 |normal=>exact⟨.normal,a₁,w₁,hq,.head h0 Ni (StepsIn.trans harr (.one (fenced_calm hb hr rfl) lX))⟩
 |exit id'=>
  have hx:exitTo id' (.inScope c::k)=exitTo id' k:=by simp[exitTo]
  exact⟨.exit id',a₁,w₁,hq,fun k' hk=>.head h0 Ni (harr.1 k' (by rw[hx];exact hk)),
   fun hr' hk=>let ⟨k₁,h1,h2⟩:=harr.2 hr' (by rw[hx];exact hk);⟨k₁,h1,.head h0 Ni h2⟩⟩
 |goto l=>exact hq.elim
 |ret=>exact⟨_,a₁,w₁,hq,.of_steps (.one h0 Ni) harr⟩
 |panic ch=>exact⟨_,a₁,w₁,hq,.of_steps (.one h0 Ni) harr⟩
 |outgrown=>exact⟨_,a₁,w₁,hq,.of_steps (.one h0 Ni) harr⟩
def iZ(P:Program)(O:Ez)(B:xT)(n:Nat)(k:List Aj)(r:Ex × St)(ex:Exit)(a:Act)(w:World):Prop:=∃m,m<n∧∃e s,Cj (Dc O P m) k e s=some r∧uV B e s ex a w
theorem iZ.le{B:xT}{n n':Nat}{k:List Aj}{r:Ex × St}{ex:Exit}{a:Act}{w:World}(h:iZ P O B n k r ex a w)(hn:n≤n'):iZ P O B n' k r ex a w:=by
 obtain⟨m,hm,rest⟩:=h;exact⟨m,by omega,rest⟩
theorem Vk(hF:WF F)(hO:Hv P G O)(hL:dB P G O)(hD:bX P G O)(hR:Yi P G O){B:xT}(hB:B.ro=F.round)(hI:Up G B.w0 B.S0){r:Ex × St}:∀(n:Nat) {c:Code} {k:List Aj} {s:St} {a:Act} {w:World} {S:Nat→Prop} {ρ:Am},
 Dc O P n c k s=some r→Qz B s a w S ρ→c.wpIn F nn P (iZ P O B n k r) a w:=by
 intro n
 induction n using Nat.strongRecOn with
 |_ n IH=>
  intro c k s a w S ρ h hs
  cases n with
  |zero=>simp[Dc]at h
  |succ n=>
   have leaf:∀{e:Ex} {s':St} {ex:Exit} {a':Act} {w':World},Cj (Dc O P n) k e s'=some r→uV B e s' ex a' w'→iZ P O B (n+1) k r ex a' w':=fun h1 h2=>⟨n,by omega,_,_,h1,h2⟩
   cases c with
   |skip=>exact wpIn_skip (leaf h ⟨S,ρ,hs,trivial⟩)
   |label l=>exact wpIn_label (leaf h ⟨S,ρ,hs,trivial⟩)
   |region id ops draw=>
    have fin:∀(kp:AV→St→R),(∀v s',kp v s'=some r→Cj (Dc O P n) k (.pan v) s'=some r)→∀(ex:Exit) (a':Act) (w':World),
     OQ B (fun s _=>Cj (Dc O P n) k .normal s) kp r ex a' w'→iZ P O B (n+1) k r ex a' w':=fun kp hkp ex a' w' hq=>by
     cases ex with
     |normal=>obtain⟨s',log,S',ρ',h1,h2⟩:=hq;exact leaf h1 ⟨S',ρ',h2,trivial⟩
     |panic ch=>obtain⟨v,s',S',ρ',cv,h1,h2,h3,h4⟩:=hq;exact leaf (hkp v s' h1) ⟨S',ρ',h2,cv,h3,h4⟩
     |_=>exact hq.elim
    cases draw with
    |false=>
     have:=fU (nn:=nn) hF hO hI (ops:=ops) (i:=0) (rest:=ops.toList) (fun j o hj=>by simpa using hj) h hs
     refine wpIn_mono (wpIn_region (by rw[arW];simpa using this)) (fin _ (fun v s' h=>h))
    |true=>
     have hst:Ov ops.toList=true∧Fv O P ops.toList (Uw ops.toList) ops.toList 0 s [] (fun s log=>Ha (Eu ops.toList log) (Cj (Dc O P n) k .normal s)) (fun _ _=>none)=some r:=by
      simp only[Dc,Ha]at h
      cases hd:Ov ops.toList with
      |true=>rw[hd]at h;exact⟨rfl,h⟩
      |false=>rw[hd]at h;simp at h
     exact wpIn_mono (hD ops B (fun s _=>Cj (Dc O P n) k .normal s) r s a w S ρ id F nn hF hst.1 hst.2 hI hs) (fin _ (fun v s' h=>by simp at h))
   |seq x y=>
    have h1:=IH n (by omega) (c:=x) (k:=.code y::k) h hs
    refine wpIn_seq (wpIn_mono h1 fun ex a' w' hk=>?_)
    obtain⟨m,hm,e,s',hp,S',ρ',hs',he⟩:=hk
    cases e with
    |normal=>
     cases ex<;>simp[iR]at he
     exact wpIn_mono (IH m (by omega) (c:=y) (k:=k) hp hs') (fun ex a' w' hk=>hk.le (by omega))
    |exit i=>
     cases ex<;>simp[iR]at he
     exact⟨m,by omega,_,_,hp,S',ρ',hs',he⟩
    |ret=>
     cases ex<;>simp[iR]at he
     exact⟨m,by omega,_,_,hp,S',ρ',hs',trivial⟩
    |pan v=>
     cases ex with
     |panic ch=>exact⟨m,by omega,_,_,hp,S',ρ',hs',he⟩
     |_=>simp[iR]at he
   |cond oc x y=>
    simp only[Dc,zO]at h
    split at h
    ·rename_i b hb
     have hv:=Ao hs.2.1 hb
     generalize hce:a.eval oc=cc at hv
     cases hv
     cases b with
     |true=>exact wpIn_cond_true hce (wpIn_mono (IH n (by omega) (c:=x) (k:=k) h hs) (fun ex a' w' hk=>hk.le (by omega)))
     |false=>exact wpIn_cond_false hce (wpIn_mono (IH n (by omega) (c:=y) (k:=k) h hs) (fun ex a' w' hk=>hk.le (by omega)))
    ·simp at h
   |block id x=>
    have h1:=IH n (by omega) (c:=x) (k:=.blk id::k) h hs
    refine wpIn_block (wpIn_mono h1 fun ex a' w' hk=>?_)
    obtain⟨m,hm,e,s',hp,S',ρ',hs',he⟩:=hk
    cases e with
    |normal=>
     cases ex<;>simp[iR]at he
     exact⟨m,by omega,.normal,s',hp,S',ρ',hs',trivial⟩
    |exit i=>
     cases ex<;>simp[iR]at he
     subst he
     simp only[Exit.inBlock]
     by_cases hi:i=id
     ·subst hi
      simp only[Cj,beq_self_eq_true,cond_true]at hp
      rw[if_pos rfl]
      exact⟨m,by omega,.normal,s',hp,S',ρ',hs',trivial⟩
     ·have hb:(i==id)=false:=by simpa using hi
      simp only[Cj,hb,cond_false]at hp
      rw[if_neg hi]
      exact⟨m,by omega,.exit i,s',hp,S',ρ',hs',rfl⟩
    |ret=>
     cases ex<;>simp[iR]at he
     exact⟨m,by omega,.ret,s',hp,S',ρ',hs',trivial⟩
    |pan v=>
     cases ex with
     |panic ch=>exact⟨m,by omega,.pan v,s',hp,S',ρ',hs',he⟩
     |_=>simp[iR]at he
   |loop x=>
    simp only[Dc,Yg]at h
    split at h
    ·rename_i e s' hl
     exact wpIn_mono (hL x s e s' hl F nn hF B a w S ρ hB hI hs) (fun ex a' w' hp=>leaf h hp)
    ·simp at h
   |exit id=>exact wpIn_exit (leaf h ⟨S,ρ,hs,rfl⟩)
   |ret=>exact wpIn_ret (leaf h ⟨S,ρ,hs,trivial⟩)
   |rangeFunc f ps asg body=>
    simp only[Dc,abQ]at h
    obtain⟨fv,hfv,h⟩:=h
    split at h
    ·rename_i g fa fb
     obtain⟨d,hd,h⟩:=abQ.1 h
     simp only[List.length_append,aoH,List.length_nil]at hd
     cases hout:d.out with
     |pan v=>rw[hout]at h;simp at h
     |ret v=>
      rw[hout]at h
      simp only at h
      have go:∀ps' asg' body' tm' st e,(Ar (s.h++[.lp ps.toList asg body s.tmps .ready]) d.es)[s.h.length]?=some (.lp ps' asg' body' tm' st)→Wt st=some e→
       Cj (Dc O P n) k e ⟨s.tmps,(Ar (s.h++[.lp ps.toList asg body s.tmps .ready]) d.es).set s.h.length .dead⟩=some r→(Code.rangeFunc f ps asg body).wpIn F nn P (iZ P O B (n+1) k r) a w:=fun ps' asg' body' tm' st e h1 h2 h3=>
       wpIn_mono (hR f ps asg body s g fa fb d v ps' asg' body' tm' st e hfv hd hout h1 h2 F nn hF B a w S ρ hB hI hs) (fun ex a' w' hp=>leaf h3 hp)
      split at h
      ·rename_i hb;exact go _ _ _ _ _ _ hb rfl h
      ·rename_i hb;exact go _ _ _ _ _ _ hb rfl h
      ·rename_i hb;exact go _ _ _ _ _ _ hb rfl h
      ·simp at h
    ·simp at h
   |scope b=>
    have h1:=IH n (by omega) (c:=b) (k:=k) h hs
    refine vP (wpIn_mono h1 fun ex a' w' hk=>?_)
    obtain⟨m,hm,e,s',hp,S',ρ',hs',he⟩:=hk
    cases ex with
    |goto l=>cases e<;>simp[iR]at he
    |_=>exact⟨m,by omega,e,s',hp,S',ρ',hs',he⟩
   |goto l=>simp[Dc]at h
   |refuse s=>simp[Dc]at h
end
section
variable {P:Program} {G:Nat→Option Obj} {O:Ez}
theorem HR.unclean{w:World}{S:Nat→Prop}{ρ:Am}{cs:Aa}(H:HR w S ρ (hf (cs.map CB.clean))):HR w S ρ (hf cs):=by
 have get:∀(i:Nat),hf (cs.map CB.clean) i=(hf cs i).map CB.clean:=fun i=>by simp[hf]
 refine⟨fun b cb co st sz h=>?_,fun b h=>?_,H.inj,H.old,fun b l h=>?_,H.linj,H.lnS⟩
 ·obtain⟨c,e,fz,fl,rows,h1,h2,h3,h4⟩:=H.at_ b cb co st sz h
  refine⟨c,e,fz,fl,rows,h1,h2,h3,?_⟩
  rcases h4 with⟨⟨wr,h4⟩,h5⟩|⟨h4,h5⟩
  ·rw[get,acI]at h4
   obtain⟨x,hx,hx2⟩:=h4
   cases x<;>simp[CB.clean]at hx2
   obtain⟨rfl,rfl,_,rfl⟩:=hx2
   exact .inl ⟨⟨_,hx⟩,h5⟩
  ·rw[get,acI]at h4
   obtain⟨x,hx,hx2⟩:=h4
   cases x<;>simp[CB.clean]at hx2
   obtain⟨rfl,rfl,rfl⟩:=hx2
   exact .inr ⟨hx,h5⟩
 ·have h4:=H.dead b h
  rw[get,acI]at h4
  obtain⟨x,hx,hx2⟩:=h4
  cases x<;>simp[CB.clean]at hx2
  exact hx
 ·obtain⟨r,ps,asg,body,tmps,st,h1,h4,h3⟩:=H.lps b l h
  rw[get,acI]at h4
  obtain⟨x,hx,hx2⟩:=h4
  cases x<;>simp[CB.clean]at hx2
  obtain⟨rfl,rfl,rfl,rfl,rfl⟩:=hx2
  exact⟨r,_,_,_,_,_,h1,hx,h3⟩
theorem Zw.same{m:List Nat}{c x y:CB}(h:Zw m x y)(hs:c.same y=true):c.same x=true:=by
 cases h with
 | @lp ps asg body tmps tmps' st ok=>
   cases c with
   |lp _ _ _ _ st'=>cases st<;>cases st'<;>first|exact hs|(simp[CB.same]at hs)
   |_=>cases st<;>simp[CB.same]at hs
 |_=>cases c<;>first|exact hs|(rename_i st';cases st'<;>simp[CB.same]at hs)|(simp[CB.same]at hs)
theorem bT{B:xT}{h:Aa}{w:World}{S:Nat→Prop}{ρ:Am}(FF:FI B.h0 B.w0 B.S0 B.ρ0 h w S ρ)(hdom:∀b,B.h0.length≤b→B.ρ0 b=.fresh){v v':AV}{cv:Value}{h':Aa}(hv:VR w S ρ v cv)
 (hf':Qd B.h0.length v h=some (v',h')):∃ρ',Zi B.h0 B.w0 B.S0 B.ρ0 v' h' cv w S ρ':=by
 unfold Qd at hf'
 simp only[abQ]at hf'
 obtain⟨⟨vs,cs,m⟩,hp,hf'⟩:=hf'
 simp only at hf'
 split at hf'
 ·rename_i v1
  simp at hf';obtain⟨rfl,rfl⟩:=hf'
  obtain⟨p1,p2,p3,p4,p5,p6⟩:=iV hp
  have hnd:=p2 List.nodup_range
  have hbf:ρ h.length=.fresh:=FF.dom _ (adM _)
  have hmb:∀b∈m,b<h.length:=fun b hb=>by
   obtain⟨j,hj,rfl⟩:=acQ.1 hb
   obtain⟨b',c,k1,k2,_⟩:=p4 j _ (aa9 (by omega:j<cs.length))
   rw[aa9 hj]at k1;cases k1
   exact Lc k2
  have H1:=(yF (Sc:=S) FF.hr hbf (fun _ h=>h) FF.hr.old hnd p3 p4 (fun b _ cb co st sz _ h=>h) FF.hr.lnS).unclean
  have mi:∀i,i<B.h0.length→m[i]?=some i:=fun i hi=>Ox p1 (by simp[hi])
  have vi:∀i,i<B.h0.length→ρ.via m h.length i=ρ i:=fun i hi=>Am.via_at (adK _) (mi i hi)
  have viaAt:∀j cb co st sz,ρ.via m h.length j=.pl cb co st sz→∃b,m[j]?=some b∧ρ b=.pl cb co st sz:=fun i cb co st sz h=>by
   refine⟨m.getD i _,getD_some rfl (fun e=>?_),h⟩
   unfold Am.via at h;rw[e,hbf]at h;cases h
  obtain⟨m1,m2,k1,k2⟩:=p6 0 v v1 rfl rfl
  refine⟨ρ.via m h.length,k1.vr _ k2 hv,H1,?_,fun b hb=>?_,fun b hb=>?_,?_,fun i c c' hc hc' hsame=>?_⟩
  ·have s:=FF.sim
   refine⟨s.size,s.os,s.tape,s.output,s.keep,s.sub,fun b=>?_,s.other,fun id cb co st sz Fe=>?_,s.grow,s.objs,s.loops,fun id l Fe=>?_⟩
   ·rcases adO b B.h0.length with hb|hb
    ·rw[vi b hb];exact s.le b
    ·exact .inl (hdom b hb)
   ·obtain⟨b,_,hb2⟩:=viaAt _ _ _ _ _ Fe;exact s.rng _ _ _ _ _ hb2
   ·exact s.lrng _ _ Fe
  ·unfold Am.via
   rw[adQ,aoK (by omega)];exact hbf
  ·have hb':b<m.length:=by omega
   rw[Am.via_at (adK _) (aa9 hb')]
   exact FF.all _ (hmb _ (asD hb'))
  ·have:=p1.length_le;simp at this;omega
  ·have hi:i<B.h0.length:=(acR.1 hc).1
   obtain⟨b',c2,q1,q2,q3⟩:=p4 i c' hc'
   rw[mi i hi]at q1;cases q1
   obtain⟨u1,u2⟩:=FF.unw i c c2 hc q2 (q3.same hsame)
   exact⟨by rw[vi i hi];exact u1,u2⟩
 ·simp at hf'
theorem eJ{w:World}{S:Nat→Prop}{ρ:Am}{s:St}{a:Act}(H:HR w S ρ (hf s.h))(T:TR w S ρ s.tmps a.tmps):∀{rs:List ResultVar} {vs:List AV},Rz P s rs=some vs→
 ∃cvs:List Value,(rs.mapM (fun| .tmp t=>pure (a.tmps.getD t undef)| .cell x t=>do loadVar t (←asAddr (a.tmps.getD x undef))):Sem (List Value)).run P w=.ok cvs w∧LR w S ρ vs cvs
 | [],vs,h=>by simp[Rz]at h;subst h;exact⟨[],by simp,.nil⟩
 | .tmp t::rs,vs,h=>by
   obtain⟨vs',h1,rfl⟩:=acI.1 h
   obtain⟨cvs,k1,k2⟩:=eJ H T h1
   refine⟨a.tmps.getD t undef::cvs,?_,.cons (Xj T t) k2⟩
   rw[as9]
   simp only[Sem.run_bind,Sem.run_pure,Result.andThen_ok,k1]
 | .cell x t::rs,vs,h=>by
   simp only[Rz,abQ,acI]at h
   obtain⟨d,hd,vs',h1,rfl⟩:=h
   obtain⟨cvs,k1,k2⟩:=eJ H T h1
   have hp:=Xj T x
   obtain⟨cv,h2,h3,_⟩:=kA (P:=P) H hd hp
   refine⟨cv::cvs,?_,.cons h3 k2⟩
   have h4:(do loadVar t (←asAddr (a.tmps.getD x undef)):Sem Value).run P w=.ok cv w:=by
    generalize a.tmps.getD x undef=cx at hp h2
    cases cx with
    |pointer p=>
     cases p with
     |some ad=>simpa [Instr.loadAt,Instr.sureAddr,asAddr]using h2
     |none=>simp[Instr.loadAt,Instr.sureAddr]at h2
    |_=>simp[Instr.loadAt,Instr.sureAddr]at h2
   rw[as9]
   simp only[Sem.run_bind]at h4 ⊢
   rw[h4]
   simp only[Result.andThen_ok,k1,Sem.run_pure]
theorem aC{w:World}{S:Nat→Prop}{ρ:Am}{s:St}{a:Act}(H:HR w S ρ (hf s.h))(T:TR w S ρ s.tmps a.tmps){fn:Func}{vs:List AV}(h:Rz P s fn.results.toList=some vs):
 ∃cv,(results fn a.tmps).run P w=.ok cv w∧VR w S ρ (Ru vs) cv:=by
 obtain⟨cvs,k1,k2⟩:=eJ H T h
 have hrun:(results fn a.tmps).run P w=.ok (if h:cvs.toArray.size=1 then cvs.toArray[0]else .tuple cvs.toArray) w:=by
  unfold results
  rw[Sem.run_bind,Array.mapM_eq_mapM_toList,Sem.run_map]
  refine Eq.trans (congrArg (fun z:Result (List Value)=>(z.andThen fun a w'=>Result.ok a.toArray w').andThen fun a w'=>Sem.run P (pure (if h:a.size=1 then a[0]else Value.tuple a)) w') k1) ?_
  rfl
 refine⟨_,hrun,?_⟩
 cases vs with
 |nil=>rw[k2.nil_inv];exact .tup rfl (fun i x v hx=>by simp at hx)
 |cons v vs=>
  obtain⟨c,cs',rfl,q1,q2⟩:=k2.cons_inv
  cases vs with
  |nil=>rw[q2.nil_inv];exact q1
  |cons v' vs=>
   obtain⟨c',cs'',rfl,q3,q4⟩:=q2.cons_inv
   rw[dif_neg (by simp)]
   exact .tup (by have:=k2.1;simpa using this) (fun i x v hx hv=>k2.2 i x v hx (by simpa using hv))
theorem VR.aside{w:World}{S:Nat→Prop}{ρ:Am}{x:AV}{v:Value}(h:VR w S ρ x v){r:Nat}(hr:¬S r)(o:Obj):VR (setB w r o) S ρ x v:=
 h.mono (fun b hb=>Bc (fun e=>by subst e;exact hr hb)) (fun _ h=>h) ρ.le_refl
theorem FI.aside{h0:Aa}{w0:World}{S0:Nat→Prop}{ρ0:Am}{h:Aa}{w:World}{S:Nat→Prop}{ρ:Am}(F:FI h0 w0 S0 ρ0 h w S ρ){r:Nat}{o':Obj}(hr:w.heap[r]?=some o')(hc:Vi o'=false)(hS:¬S r)(h0r:w0.heap.size≤r)(o:Obj):
 FI h0 w0 S0 ρ0 h (setB w r o) S ρ:=by
 have cbr:∀b cb co st sz,ρ b=.pl cb co st sz→cb≠r:=fun b cb co st sz hb e=>by
  obtain⟨c,e',fz,fl,rows,h1,_⟩:=F.hr.at_ b cb co st sz hb
  rw[e,hr]at h1;cases h1;simp[Vi]at hc
 refine⟨⟨fun b cb co st sz hb=>?_,F.hr.dead,F.hr.inj,fun b hb=>by have:=F.hr.old b hb;simpa [setB]using this,fun b l hb=>?_,F.hr.linj,F.hr.lnS⟩,?_,F.dom,F.all,F.all0,F.len,F.kind,fun i c c' hc1 hc2 hs=>?_⟩
 ·obtain⟨c,e',fz,fl,rows,h1,h2,h3,h4⟩:=F.hr.at_ b cb co st sz hb
  refine⟨c,e',fz,fl,rows,by rw[Bc (cbr b cb co st sz hb)];exact h1,h2,⟨h3.len,h3.wide,h3.flat,fun i r' j x hr' hx=>?_,h3.isCell⟩,h4⟩
  obtain⟨v,q1,q2⟩:=h3.cell i r' j x hr' hx
  exact⟨v,q1,q2.aside hS o⟩
 ·obtain⟨r1,ps,asg,body,tmps,st,h1,h2,h3⟩:=F.hr.lps b l hb
  refine⟨r1,ps,asg,body,tmps,st,?_,h2,h3.params,h3.assign,h3.body,⟨h3.tmps.1,fun i x v hx hv=>(h3.tmps.2 i x v hx hv).aside hS o⟩,h3.state⟩
  rw[Bc (fun e=>by rw[e,hr]at h1;cases h1;simp[Vi]at hc)];exact h1
 ·have s:=F.sim
  refine⟨by simpa [setB]using s.size,s.os,s.tape,s.output,fun b hb=>?_,s.sub,s.le,fun b hb hn hl=>?_,s.rng,s.grow,fun b o2 hb ho=>?_,fun b r1 hb=>?_,s.lrng⟩
  ·rw[Bc (fun e=>by subst e;exact hS (s.sub _ hb))];exact s.keep b hb
  ·rw[Bc (by omega)];exact s.other b hb hn hl
  ·have:=(ae4.1 hb).1
   rw[Bc (by omega)];exact s.objs b o2 hb ho
  ·have:=(ae4.1 hb).1
   rw[Bc (by omega)];exact s.loops b r1 hb
 ·obtain⟨u1,u2⟩:=F.unw i c c' hc1 hc2 hs
  refine⟨u1,fun cb co st sz hρ=>?_⟩
  rw[Bc (cbr i cb co st sz (by rw[u1];exact hρ))];exact u2 cb co st sz hρ
theorem Nr{F:Fence}{n:Nat}{fn:Func}{tmps:Array Value}{R:Ending→World→Prop}{u:FrameMode}(hu:u≠.run){w0:World}{S:Nat→Prop}{Φ:World→Prop}
 (hstep:∀w r,Φ w→w.heap[r]?=some (.deferred (some []))→¬S r→w0.heap.size≤r→Φ (setB w r (.deferred none))) (hend:∀w,Φ w→LeavesIn F n P fn tmps R [] u w):
 ∀(ds:List Deferred) (w:World),Φ w→tJ w0 w S ds→ds.Pairwise (fun d e=>rG d.target≠rG e.target)→LeavesInM F n P fn tmps R ds u w
 | [],w,h,_,_=>hend w h
 |d::ds,w,h,hm,hp=>by
  obtain⟨r,rfl,k2,k3,k4⟩:=hm d (adJ ..)
  have hp':=List.pairwise_cons.1 hp
  refine⟨hu,.inl ⟨r,setB w r (.deferred none),rfl,run_takeDeferred k2,?_⟩⟩
  refine Nr hu hstep hend ds _ (hstep w r h k2 k3 k4) (fun e he=>?_) hp'.2
  obtain⟨r',q1,q2,q3,q4⟩:=hm e (acV _ he)
  have hne:r'≠r:=fun e1=>hp'.1 e he (by rw[q1,e1])
  exact⟨r',q1,by rw[Bc hne];exact q2,q3,q4⟩
def abK(P:Program):Prop:=∀(f:Nat) (fn:Func),P.funcs[f]?=some fn→(fn.name== "runtime.NumGoroutine")=false
theorem pP(hN:abK P){f:Nat}{fn:Func}{c:Code}(hfn:P.funcs[f]?=some fn)(hb:fn.body=some c)(args:Array Value)(w:World):(callFunc f args).run P w=.ok (.enter f args) w:=by
 have h':¬fn.name= "runtime.NumGoroutine" :=by simpa using hN f fn hfn
 simp[callFunc,hfn,hb,h']
theorem FI.post{h0:Aa}{w0:World}{S0:Nat→Prop}{ρ0:Am}{h:Aa}{w:World}{S:Nat→Prop}{ρ:Am}(F:FI h0 w0 S0 ρ0 h w S ρ){v:AV}{cv:Value}(hv:VR w S ρ v cv):Zi h0 w0 S0 ρ0 v h cv w S ρ:=
 ⟨hv,F.hr,F.sim,F.dom,F.all,F.len,F.unw⟩
theorem acF(hN:abK P)(hO:Hv P G O)(hL:dB P G O)(hD:bX P G O)(hR:Yi P G O){f:Nat}{args:List AV}{h:Aa}{out:Ea}{h':Aa}(he:evF O P f args h=some (out,h')):
 (∀args w,(callFunc f args).run P w=.ok (.enter f args) w)∧
 ∀w S ρ (cargs:Array Value),Up G w S→HR w S ρ (hf h)→(∀b,h.length≤b→ρ b=.fresh)→(∀b,b<h.length→ρ b≠.fresh)→LR w S ρ args cargs.toList→Calls P f cargs w (Og h w S ρ out h'):=by
 unfold evF at he
 split at he
 ·simp at he
 ·rename_i fn hfn
  split at he
  ·simp at he
  ·rename_i c hb
   obtain⟨⟨e,s⟩,hm,he⟩:=abQ.1 he
   refine⟨fun args w=>pP hN hfn hb args w,fun w S ρ cargs hI H dom all hargs=>?_⟩
   have hasz:args.length=cargs.size:=by simpa using hargs.1
   have hT:TR w S ρ (args++ajY (fn.ntmps-args.length) (.tup [])) (cargs++ajZ (fn.ntmps-cargs.size) undef):=by
    have e1:(cargs++ajZ (fn.ntmps-cargs.size) undef).toList=cargs.toList++ajY (fn.ntmps-args.length) undef:=by simp[hasz]
    show LR _ _ _ _ _
    rw[e1]
    refine hargs.append ⟨by simp,fun i x v hx hv=>?_⟩
    rw[atA]at hx hv
    split at hx
    ·rename_i hi;rw[if_pos hi]at hv;simp at hx hv;subst hx hv;exact Vx
    ·simp at hx
   have hs:Qz ⟨h,w,S,ρ,none⟩ ⟨args++ajY (fn.ntmps-args.length) (.tup []),h⟩ { tmps:=cargs++ajZ (fn.ntmps-cargs.size) undef,defers:=[] } w S ρ:=⟨FI.start H dom all,hT,fun d hd=>by simp at hd,List.Pairwise.nil,fun l hl=>by simp at hl⟩
   refine(callsIn_wide (n:=0)).1 (callsIn_of_wp_marks hfn hb trivial (wpIn_mono (Vk (nn:=0) (.inl rfl) hO hL hD hR rfl hI Ly hm hs) fun ex a' w' hk=>?_))
   obtain⟨m,_,e',s',hp,S',ρ',hs',hex⟩:=hk
   simp only[Cj,adL.injEq,Prod.mk.injEq]at hp
   obtain⟨rfl,rfl⟩:=hp
   have ret:(Rz P s' fn.results.toList).bind (fun vs=>(Qd h.length (Ru vs) s'.h).map fun(v,h)=>(Ea.ret v,h))=some (out,h')→
    LeavesInM Fence.wide 0 P fn a'.tmps (Og h w S ρ out h') a'.defers .returning w':=fun he=>by
    obtain⟨vs,hr,he⟩:=abQ.1 he
    obtain⟨⟨v',h1⟩,hfin,heq⟩:=acI.1 he
    simp only[Prod.mk.injEq]at heq
    obtain⟨rfl,rfl⟩:=heq
    refine Nr (w0:=w) (S:=S') (by simp) (Φ:=fun w1=>FI h w S ρ s'.h w1 S' ρ'∧TR w1 S' ρ' s'.tmps a'.tmps) (fun w1 r ⟨q1,q2⟩ q3 q4 q5=>⟨q1.aside q3 rfl q4 q5 _,⟨q2.1,fun i x v hx hv=>(q2.2 i x v hx hv).aside q4 _⟩⟩)
     (fun w1 ⟨q1,q2⟩=>?_) a'.defers w' ⟨hs'.1,hs'.2.1⟩ hs'.2.2.1 hs'.2.2.2.1
    obtain⟨cv,k1,k2⟩:=aC (P:=P) q1.hr q2 hr
    obtain⟨ρ'',CP⟩:=bT (B:=⟨h,w,S,ρ,none⟩) q1 dom k2 hfin
    exact⟨cv,k1,cv,S',ρ'',⟨⟨_,rfl⟩,rfl⟩,CP⟩
   cases e' with
   |normal=>
    cases ex<;>simp[iR]at hex
    exact ret he
   |ret=>
    cases ex<;>simp[iR]at hex
    exact ret he
   |pan v=>
    cases ex with
    |panic ch=>
     obtain⟨cv,k1,rfl⟩:=hex
     obtain⟨⟨v',h1⟩,hfin,heq⟩:=acI.1 he
     simp only[Prod.mk.injEq]at heq
     obtain⟨rfl,rfl⟩:=heq
     refine Nr (w0:=w) (S:=S') (by simp) (Φ:=fun w1=>FI h w S ρ s'.h w1 S' ρ'∧VR w1 S' ρ' v cv) (fun w1 r ⟨q1,q2⟩ q3 q4 q5=>⟨q1.aside q3 rfl q4 q5 _,q2.aside q4 _⟩)
      (fun w1 ⟨q1,q2⟩=>?_) a'.defers w' ⟨hs'.1,k1⟩ hs'.2.2.1 hs'.2.2.2.1
     obtain⟨ρ'',CP⟩:=bT (B:=⟨h,w,S,ρ,none⟩) q1 dom q2 hfin
     exact⟨cv,S',ρ'',⟨⟨_,rfl⟩,rfl⟩,CP⟩
    |_=>simp[iR]at hex
   |exit i=>simp at he
theorem ac5(hN:abK P)(hO:Hv P G O)(hL:dB P G O)(hD:bX P G O)(hR:Yi P G O){f:Nat}{args:List AV}{h:Aa}{out:Ea}{h':Aa}(he:evS O P f args h=some (out,h')):
 (∀args w,(callFunc f args).run P w=.ok (.enter f args) w)∧
 ∀w S ρ (cargs:Array Value),Up G w S→HR w S ρ (hf h)→(∀b,h.length≤b→ρ b=.fresh)→(∀b,b<h.length→ρ b≠.fresh)→LR w S ρ args cargs.toList→Calls P f cargs w (Og h w S ρ out h'):=by
 unfold evS at he
 split at he
 ·simp at he
 ·rename_i fn hfn
  split at he
  ·simp at he
  ·rename_i c hb
   obtain⟨⟨e,s⟩,hm,he⟩:=abQ.1 he
   refine⟨fun args w=>pP hN hfn hb args w,fun w S ρ cargs hI H dom all hargs=>?_⟩
   have hasz:args.length=cargs.size:=by simpa using hargs.1
   have hT:TR w S ρ (args++ajY (fn.ntmps-args.length) (.tup [])) (cargs++ajZ (fn.ntmps-cargs.size) undef):=by
    have e1:(cargs++ajZ (fn.ntmps-cargs.size) undef).toList=cargs.toList++ajY (fn.ntmps-args.length) undef:=by simp[hasz]
    show LR _ _ _ _ _
    rw[e1]
    refine hargs.append ⟨by simp,fun i x v hx hv=>?_⟩
    rw[atA]at hx hv
    split at hx
    ·rename_i hi;rw[if_pos hi]at hv;simp at hx hv;subst hx hv;exact Vx
    ·simp at hx
   have hs:Qz ⟨h,w,S,ρ,none⟩ ⟨args++ajY (fn.ntmps-args.length) (.tup []),h⟩ { tmps:=cargs++ajZ (fn.ntmps-cargs.size) undef,defers:=[] } w S ρ:=⟨FI.start H dom all,hT,fun d hd=>by simp at hd,List.Pairwise.nil,fun l hl=>by simp at hl⟩
   refine(callsIn_wide (n:=0)).1 (callsIn_of_wp_marks hfn hb trivial (wpIn_mono (Vk (nn:=0) (.inl rfl) hO hL hD hR rfl hI Ly hm hs) fun ex a' w' hk=>?_))
   obtain⟨m,_,e',s',hp,S',ρ',hs',hex⟩:=hk
   simp only[Cj,adL.injEq,Prod.mk.injEq]at hp
   obtain⟨rfl,rfl⟩:=hp
   have ret:(Rz P s' fn.results.toList).map (fun vs=>(Ea.ret (Ru vs),s'.h))=some (out,h')→
    LeavesInM Fence.wide 0 P fn a'.tmps (Og h w S ρ out h') a'.defers .returning w':=fun he=>by
    obtain⟨vs,hr,heq⟩:=acI.1 he
    simp only[Prod.mk.injEq]at heq
    obtain⟨rfl,rfl⟩:=heq
    refine Nr (w0:=w) (S:=S') (by simp) (Φ:=fun w1=>FI h w S ρ s'.h w1 S' ρ'∧TR w1 S' ρ' s'.tmps a'.tmps) (fun w1 r ⟨q1,q2⟩ q3 q4 q5=>⟨q1.aside q3 rfl q4 q5 _,⟨q2.1,fun i x v hx hv=>(q2.2 i x v hx hv).aside q4 _⟩⟩)
     (fun w1 ⟨q1,q2⟩=>?_) a'.defers w' ⟨hs'.1,hs'.2.1⟩ hs'.2.2.1 hs'.2.2.2.1
    obtain⟨cv,k1,k2⟩:=aC (P:=P) q1.hr q2 hr
    exact⟨cv,k1,cv,S',ρ',⟨⟨_,rfl⟩,rfl⟩,q1.post k2⟩
   cases e' with
   |normal=>
    cases ex<;>simp[iR]at hex
    exact ret he
   |ret=>
    cases ex<;>simp[iR]at hex
    exact ret he
   |pan v=>
    cases ex with
    |panic ch=>
     obtain⟨cv,k1,rfl⟩:=hex
     simp only[adL.injEq,Prod.mk.injEq]at he
     obtain⟨rfl,rfl⟩:=he
     refine Nr (w0:=w) (S:=S') (by simp) (Φ:=fun w1=>FI h w S ρ s'.h w1 S' ρ'∧VR w1 S' ρ' v cv) (fun w1 r ⟨q1,q2⟩ q3 q4 q5=>⟨q1.aside q3 rfl q4 q5 _,q2.aside q4 _⟩)
      (fun w1 ⟨q1,q2⟩=>?_) a'.defers w' ⟨hs'.1,k1⟩ hs'.2.2.1 hs'.2.2.2.1
     exact⟨cv,S',ρ',⟨⟨_,rfl⟩,rfl⟩,q1.post q2⟩
    |_=>simp[iR]at hex
   |exit i=>simp at he
end
end Go.Ev
