/- The evaluator and its soundness. -/
import Derived.Test.YtfkokgjfpojeoaaGreatDoorLibD
open And renaming intro→aaP
open Option renaming map_eq_some_iff→acP,bind_eq_some_iff→acQ,bind_some→acV,map_some→agG,some→ahZ
open Eq renaming trans→acR
open List renaming mem_cons_of_mem→acS,mem_cons_self→acT,getElem?_eq_some_iff→acU,mem_append→ac6,all_eq_true→ad5,getElem?_eq_getElem→aeG,mem_append_left→afG,mem_append_right→afV,mem_cons→af2,getElem?_append_left→agI,append_nil→agK,getElem?_append_right→agP,nil_append→ahB,mem_map→ahD,mem_of_getElem?→ahO,flatMap_cons→ai3,range_zero→ai7,length_cons→ajX,prefix_refl→akD,cons→ak8,getElem?_of_mem→ak9,any_eq_true→alB,getElem?_eq_none_iff→alE,nodup_nil→alF
open Bool renaming and_eq_true→agA,or_eq_true→alA,not_eq_true'→alC,not_eq_eq_eq_not→alD
open Nat renaming zero_add→ak7
set_option linter.unusedSimpArgs false
set_option linter.unusedVariables false
namespace Go.Ev
noncomputable section
set_option maxRecDepth 100000
def EVi:=PLift.up (aaP @vN (aaP @aeY (aaP @aiU (aaP @ajP (aaP @ah9 (aaP @ai0 (aaP @ajY (aaP @akV (aaP @wM (aaP @aiC (aaP @abO (aaP @aa4 (aaP @ae1 (aaP @ab2 (aaP @zJ (aaP @ad0 (aaP @zV (aaP @aaW (aaP @yX (aaP @ajQ (aaP @aeH (aaP @zC (aaP @am0 (aaP @al6 (aaP @acO (aaP @abZ (aaP @abL @acA)))))))))))))))))))))))))))
def EVj:=PLift.up (aaP @ab0 (aaP @amI (aaP @yL (aaP @aaR (aaP @anR (aaP @aoW (aaP @aaN (aaP @yB (aaP @ad3 (aaP @aaX (aaP @afF (aaP @aeL (aaP @aiF (aaP @aiH (aaP @aiO (aaP @akE (aaP @aeB (aaP @akU (aaP @aiN (aaP @ajD (aaP @am6 (aaP @afT (aaP @aj9 (aaP @ahH @zM))))))))))))))))))))))))
def EVk:=PLift.up (aaP @aiQ (aaP @acN (aaP @amH (aaP @alS (aaP @anF (aaP @ag0 (aaP @ad8 (aaP @adT (aaP @af0 (aaP @adR (aaP @aaE (aaP @ahA (aaP @ae4 @ag5)))))))))))))
def EVl:=PLift.up (aaP @aeI (aaP @rZ (aaP @adE (aaP @ag9 (aaP @aj6 (aaP @aaB (aaP @amO (aaP @ab8 (aaP @pI (aaP @pZ (aaP @lN (aaP @ahT (aaP @pF (aaP @oQ (aaP @acG (aaP @ajF (aaP @acW (aaP @ai3.{0,0} (aaP @List.flatMap_nil.{0,0} (aaP @List.isEmpty_nil.{0} (aaP @List.range_succ (aaP @ai7 (aaP @List.contains_nil.{0} @List.contains_cons.{0})))))))))))))))))))))))
def EVm:=PLift.up (aaP @List.getElem?_nil.{0} (aaP @adL @acZ))
end
noncomputable section
theorem Pl(n:Nat)(fl:Bool)(rows:List (List AV)):Ad n fl true rows=.imm n fl rows:=by cases rows<;>rfl
theorem adH(n:Nat)(fl:Bool):Ad n fl false []=.nils:=rfl
section
variable {P:Program} {t e:TypeId} (hu:P.underlying t=some (.slice e))
include hu
theorem Js(n:Nat)(fl:Bool)(rows:List (List AV)):Ed P .eql t (.imm n fl rows) .nils=some (.bool false):=by simp[Ed,dE,hu]
theorem It:Ed P .eql t .nils .nils=some (.bool true):=by simp[Ed,dE,hu]
end
def ak2(v:Option AV)(ns:Option (List Ab)):Option Hl:=v.bind fun v=>ns.map fun ns=>⟨.ret v,ns,[]⟩
theorem vL(v:AV)(ns:List Ab):ak2 (some v) (some ns)=some ⟨.ret v,ns,[]⟩:=acR rfl rfl
theorem xF(base:Nat)(v:AV)(c:CB)(cs:List CB):ac0 base (some (.ret v,c::cs))=ak2 (Bf 8 (fun i=>base+i) v) (Ff (fun i=>base+i) base (c::cs)):=by
 simp only[ac0,ak2,acV,Dp.v,Dp.map]
section
variable {O:Du}
end
def Bq(h:Aa):Bool:=h.all fun c=>c.quiet c.clean
theorem pS:∀{h:Aa} (_:Bq h=true) (i:Nat) (l:Aa),Do i h (Zv h++l)=some (Gp (i+h.length) l)
 | [],_,i,l=>by simp[Zv,Do]
 |c::h,hq,i,l=>by
  simp only[Bq,List.all_cons,agA]at hq
  have ih:=pS (h:=h) hq.2 (i+1) l
  simp only[Zv,List.map_cons,List.cons_append,Do,hq.1,cond_true]at ih ⊢
  rw[ih,ajX]
  congr 2;omega
theorem Tv:∀(cs:List CB) (i:Nat) (h:Aa),Bv h (Gp i cs)=h++cs
 | [],i,h=>by simp[Gp,Bv]
 |c::cs,i,h=>by simp[Gp,Bv,Jb,Tv cs]
theorem abU(h:Aa)(o:Dp)(h':Aa):shK h (some (o,h'))=(Do 0 h h').map fun es=>(o,es):=acR rfl rfl
def EVo:=PLift.up (aaP @ahS (aaP @ahN (aaP @ahW (aaP @adY (aaP @akB (aaP @ajM @aiX))))))
def EVn:=PLift.up (aaP @vL @xF)
end
noncomputable section
def Az:CB→Option (Nat × Bool × List (List AV))
 | .live st fl _ rows=>some (st,fl,rows)
 | .frz st fl rows=>some (st,fl,rows)
 |_=>none
def Iy(f:AV→Option (AV × List Nat)):List AV→Option (List AV × List Nat)
 | []=>some ([],[])
 |a::l=>(f a).bind fun p=>(Iy f l).map fun q=>(p.1::q.1,p.2++q.2)
def Bh(f:AV→Option (AV × List Nat)):List (List AV)→Option (List (List AV) × List Nat)
 | []=>some ([],[])
 |r::rs=>(Iy f r).bind fun p=>(Bh f rs).map fun q=>(p.1::q.1,p.2++q.2)
def rd:Nat→HF→AV→Option (AV × List Nat)
 |0,_,_=>none
 |d+1,g,v=>
  match v with
  | .slr st b r len=>((g b).bind Az).bind fun z=>
     if z.1=st∧r=0∧len=z.2.2.length then
      (bif z.2.1 then some (.imm st true z.2.2,[b])else(Bh (rd d g) z.2.2).map fun q=>(.imm st false q.1,b::q.2))
     else none
  | .agg cs=>(Iy (rd d g) cs).map fun q=>(.agg q.1,q.2)
  | .iface t x=>(rd d g x).map fun q=>(.iface t q.1,q.2)
  | .func fn [] []=>some (.func fn [] [],[])
  | .func _ _ _=>none
  | .tup _=>none
  | .ptr _ _ _=>none
  | .yl _=>none
  | .mapr _=>none
  | .imm _ _ _=>none
  | .iptr _=>none
  |v=>some (v,[])
theorem Oz{f f':AV→Option (AV × List Nat)}:∀{l:List AV} {p:List AV × List Nat},Iy f l=some p→(∀x∈l,∀q,f x=some q→(∀b∈q.2,b∈p.2)→f' x=some q)→Iy f' l=some p
 | [],p,h,_=>h
 |a::l,p,h,hf=>by
  simp only[Iy,acQ,acP]at h ⊢
  obtain⟨q,hq,r,hr,rfl⟩:=h
  exact⟨q,hf a (acT ..) q hq (fun b hb=>afG _ hb),r,Oz hr (fun x hx q' hq' hs=>hf x (acS _ hx) q' hq' (fun b hb=>afV _ (hs b hb))),rfl⟩
theorem Md{f f':AV→Option (AV × List Nat)}:∀{l:List (List AV)} {p:List (List AV) × List Nat},Bh f l=some p→(∀r∈l,∀x∈r,∀q,f x=some q→(∀b∈q.2,b∈p.2)→f' x=some q)→Bh f' l=some p
 | [],p,h,_=>h
 |a::l,p,h,hf=>by
  simp only[Bh,acQ,acP]at h ⊢
  obtain⟨q,hq,r,hr,rfl⟩:=h
  exact⟨q,Oz hq (fun x hx q' hq' hs=>hf a (acT ..) x hx q' hq' (fun b hb=>afG _ (hs b hb))),r,
   Md hr (fun r' hr' x hx q' hq' hs=>hf r' (acS _ hr') x hx q' hq' (fun b hb=>afV _ (hs b hb))),rfl⟩
def wL(R:List Nat)(g g':HF):Prop:=∀b∈R,∀z,(g b).bind Az=some z→(g' b).bind Az=some z
theorem Jz{g g':HF}:∀{d:Nat} {v:AV} {p:AV × List Nat},rd d g v=some p→wL p.2 g g'→rd d g' v=some p
 |0,v,p,h,_=>by simp[rd]at h
 |d+1,v,p,h,ha=>by
  cases v with
  |slr st b r len=>
   simp only[rd,acQ]at h ⊢
   obtain⟨z,⟨c,hc,hz⟩,h⟩:=h
   split at h
   ·rename_i hq
    have hb:b∈p.2:=by
     cases hfl:z.2.1 with
     |true=>rw[hfl]at h;simp at h;rw[←h];simp
     |false=>rw[hfl]at h;simp only[cond_false,acP]at h;obtain⟨q,_,rfl⟩:=h;simp
    have hz':=ha b hb z (by rw[hc];exact hz)
    obtain⟨c',hc',hz''⟩:=acQ.1 hz'
    refine⟨z,⟨c',hc',hz''⟩,?_⟩
    rw[if_pos hq]
    cases hfl:z.2.1 with
    |true=>rw[hfl]at h;exact h
    |false=>
     rw[hfl]at h
     simp only[cond_false,acP]at h ⊢
     obtain⟨q,hq',rfl⟩:=h
     exact⟨q,Md hq' (fun r' _ x _ q' hx hs=>Jz hx (fun b' hb'=>ha b' (acS _ (hs b' hb')))),rfl⟩
   ·cases h
  |agg cs=>
   simp only[rd,acP]at h ⊢
   obtain⟨q,hq,rfl⟩:=h
   exact⟨q,Oz hq (fun x _ q' hx hs=>Jz hx (fun b hb=>ha b (hs b hb))),rfl⟩
  |iface t x=>
   simp only[rd,acP]at h ⊢
   obtain⟨q,hq,rfl⟩:=h
   exact⟨q,Jz hq ha,rfl⟩
  |func fn a b=>cases a<;>cases b<;>first|exact h|(simp[rd]at h)
  |_=>first|exact h|(simp[rd]at h)
theorem gP{g:HF}:∀{d e:Nat} {v:AV} {p:AV × List Nat},d≤e→rd d g v=some p→rd e g v=some p
 |0,e,v,p,_,h=>by simp[rd]at h
 |d+1,0,v,p,he,h=>by omega
 |d+1,e+1,v,p,he,h=>by
  have IH:∀x q,rd d g x=some q→rd e g x=some q:=fun x q hx=>gP (by omega) hx
  cases v with
  |slr st b r len=>
   simp only[rd,acQ]at h ⊢
   obtain⟨z,hz,h⟩:=h
   refine⟨z,hz,?_⟩
   split at h
   ·rename_i hq
    rw[if_pos hq]
    cases hfl:z.2.1 with
    |true=>rw[hfl]at h;exact h
    |false=>
     rw[hfl]at h
     simp only[cond_false,acP]at h ⊢
     obtain⟨q,hq',rfl⟩:=h
     exact⟨q,Md hq' (fun r' _ x _ q' hx _=>IH x q' hx),rfl⟩
   ·cases h
  |agg cs=>
   simp only[rd,acP]at h ⊢
   obtain⟨q,hq,rfl⟩:=h
   exact⟨q,Oz hq (fun x _ q' hx _=>IH x q' hx),rfl⟩
  |iface t x=>
   simp only[rd,acP]at h ⊢
   obtain⟨q,hq,rfl⟩:=h
   exact⟨q,IH _ _ hq,rfl⟩
  |func fn a b=>cases a<;>cases b<;>first|exact h|(simp[rd]at h)
  |_=>first|exact h|(simp[rd]at h)
theorem Vz{f:AV→Option (AV × List Nat)}{f':AV→Option AV}:∀{l:List AV} {p:List AV × List Nat},Iy f l=some p→(∀x∈l,∀q,f x=some q→f' x=some q.1)→Ah f' l=some p.1
 | [],p,h,_=>by simp[Iy]at h;subst h;rfl
 |a::l,p,h,hf=>by
  simp only[Iy,acQ,acP]at h
  obtain⟨q,hq,r,hr,rfl⟩:=h
  simp only[Ah,hf a (acT ..) q hq,acV,Vz hr (fun x hx=>hf x (acS _ hx)),agG]
theorem Yq{f:AV→Option (AV × List Nat)}{f':AV→Option AV}:∀{l:List (List AV)} {p:List (List AV) × List Nat},Bh f l=some p→(∀r∈l,∀x∈r,∀q,f x=some q→f' x=some q.1)→Ah (Ah f') l=some p.1
 | [],p,h,_=>by simp[Bh]at h;subst h;rfl
 |a::l,p,h,hf=>by
  simp only[Bh,acQ,acP]at h
  obtain⟨q,hq,r,hr,rfl⟩:=h
  simp only[Ah,Vz hq (fun x hx=>hf a (acT ..) x hx),acV,Yq hr (fun r' hr'=>hf r' (acS _ hr')),agG]
theorem Xb{g:HF}{b:Nat}{z:Nat × Bool × List (List AV)}(h:(g b).bind Az=some z):Dj g b 0 z.2.2.length=some z:=by
 obtain⟨c,hc,hz⟩:=acQ.1 h
 unfold Dj
 rw[hc]
 cases c with
 |live st fl w rows=>simp[Az]at hz;subst hz;simp
 |frz st fl rows=>simp[Az]at hz;subst hz;simp
 |dead=>simp[Az]at hz
 |lp=>simp[Az]at hz
theorem aB{g:HF}:∀{d:Nat} {v:AV} {p:AV × List Nat},rd d g v=some p→Dn d g v=some p.1
 |0,v,p,h=>by simp[rd]at h
 |d+1,v,p,h=>by
  cases v with
  |slr st b r len=>
   simp only[rd,acQ]at h
   obtain⟨z,hz,h⟩:=h
   split at h
   ·rename_i hq
    obtain⟨rfl,rfl,rfl⟩:=hq
    simp only[Dn,Xb (acQ.2 hz),acV]
    cases hfl:z.2.1 with
    |true=>rw[hfl]at h;simp at h;rw[←h];rfl
    |false=>
     rw[hfl]at h
     simp only[cond_false,acP]at h
     obtain⟨q,hq',rfl⟩:=h
     simp[Yq hq' (fun r' _ x _ q' hx=>aB hx)]
   ·cases h
  |agg cs=>
   simp only[rd,acP]at h
   obtain⟨q,hq,rfl⟩:=h
   simp[Dn,Vz hq (fun x _ q' hx=>aB hx)]
  |iface t x=>
   simp only[rd,acP]at h
   obtain⟨q,hq,rfl⟩:=h
   simp[Dn,aB hq]
  |func fn a b=>cases a<;>cases b<;>first|(simp[rd]at h;subst h;rfl)|(simp[rd]at h)
  |_=>first|(simp[rd]at h;subst h;rfl)|(simp[rd]at h)
def Dv:Nat→(Nat→Option Nat)→AV→Option AV
 |0,_,_=>none
 |d+1,F,v=>
  match v with
  | .ptr b r o=>(F b).map fun b=>.ptr b r o
  | .slr st b r len=>(F b).map fun b=>.slr st b r len
  | .agg cs=>(Ah (Dv d F) cs).map .agg
  | .tup cs=>(Ah (Dv d F) cs).map .tup
  | .iface t x=>(Dv d F x).map (.iface t)
  | .func fn a b=>(Ah (Dv d F) a).bind fun a=>(Ah (Dv d F) b).map fun b=>.func fn a b
  | .yl b=>(F b).map .yl
  | .mapr b=>(F b).map .mapr
  |v=>some v
def uB(F:Nat→Option Nat)(g' g:HF):Prop:=∀i b,F i=some b→∀z,(g b).bind Az=some z→
 ∃rows',(g' i).bind Az=some (z.1,z.2.1,rows')∧(z.2.1=true→rows'=z.2.2)∧(z.2.1=false→Ah (Ah (Dv 8 F)) rows'=some z.2.2)
theorem Ia{α β:Type}{f:α→Option β}:∀{l:List α} {r:List β},Ah f l=some r→l.length=r.length
 | [],r,h=>by simp[Ah]at h;subst h;rfl
 |a::l,r,h=>by
  simp only[Ah,acQ,acP]at h
  obtain⟨b,_,bs,h2,rfl⟩:=h
  simp[Ia h2]
theorem aF{f f':AV→Option (AV × List Nat)}{F:AV→Option AV}{Z:Nat→Prop}:∀{l l':List AV} {p:List AV × List Nat},Ah F l'=some l→Iy f l=some p→
 (∀x' x q,F x'=some x→f x=some q→∃R',f' x'=some (q.1,R')∧R'.length=q.2.length∧∀i∈R',Z i)→∃R',Iy f' l'=some (p.1,R')∧R'.length=p.2.length∧∀i∈R',Z i
 |l,[],p,ho,h,_=>by
  simp[Ah]at ho;subst ho
  simp[Iy]at h;subst h
  exact⟨[],rfl,rfl,fun i h=>by cases h⟩
 |l,a'::l',p,ho,h,hf=>by
  simp only[Ah,acQ,acP]at ho
  obtain⟨a,ha,l1,hl1,rfl⟩:=ho
  simp only[Iy,acQ,acP]at h
  obtain⟨q,hq,r,hr,rfl⟩:=h
  obtain⟨R1,e1,e2,z1⟩:=hf a' a q ha hq
  obtain⟨R2,e3,e4,z2⟩:=aF hl1 hr hf
  exact⟨R1++R2,by simp[Iy,e1,e3],by simp[e2,e4],fun i hi=>(ac6.1 hi).elim (z1 i) (z2 i)⟩
theorem aT{f f':AV→Option (AV × List Nat)}{F:AV→Option AV}{Z:Nat→Prop}:∀{l l':List (List AV)} {p:List (List AV) × List Nat},Ah (Ah F) l'=some l→Bh f l=some p→
 (∀x' x q,F x'=some x→f x=some q→∃R',f' x'=some (q.1,R')∧R'.length=q.2.length∧∀i∈R',Z i)→∃R',Bh f' l'=some (p.1,R')∧R'.length=p.2.length∧∀i∈R',Z i
 |l,[],p,ho,h,_=>by
  simp[Ah]at ho;subst ho
  simp[Bh]at h;subst h
  exact⟨[],rfl,rfl,fun i h=>by cases h⟩
 |l,a'::l',p,ho,h,hf=>by
  simp only[Ah,acQ,acP]at ho
  obtain⟨a,ha,l1,hl1,rfl⟩:=ho
  simp only[Bh,acQ,acP]at h
  obtain⟨q,hq,r,hr,rfl⟩:=h
  obtain⟨R1,e1,e2,z1⟩:=aF ha hq hf
  obtain⟨R2,e3,e4,z2⟩:=aT hl1 hr hf
  exact⟨R1++R2,by simp[Bh,e1,e3],by simp[e2,e4],fun i hi=>(ac6.1 hi).elim (z1 i) (z2 i)⟩
theorem gU{F:Nat→Option Nat}{g' g:HF}(H:uB F g' g):∀{d e:Nat} {x' x:AV} {p:AV × List Nat},Dv e F x'=some x→rd d g x=some p→∃R',rd d g' x'=some (p.1,R')∧R'.length=p.2.length∧∀i∈R',∃b,F i=some b
 |0,e,x',x,p,_,h=>by simp[rd]at h
 |d+1,0,x',x,p,hx,_=>by simp[Dv]at hx
 |d+1,e+1,x',x,p,hx,h=>by
  have IH:∀e x' x q,Dv e F x'=some x→rd d g x=some q→∃R',rd d g' x'=some (q.1,R')∧R'.length=q.2.length∧∀i∈R',∃b,F i=some b:=fun e x' x q h1 h2=>gU H h1 h2
  cases x' with
  |slr st i r len=>
   simp only[Dv,acP]at hx
   obtain⟨b,hb,rfl⟩:=hx
   simp only[rd,acQ]at h
   obtain⟨z,hz,h⟩:=h
   split at h
   ·rename_i hq
    obtain⟨rows',k1,k2,k3⟩:=H i b hb z (acQ.2 hz)
    simp only[rd,k1,acV]
    cases hfl:z.2.1 with
    |true=>
     rw[hfl]at h;simp at h
     rw[if_pos ⟨hq.1,hq.2.1,by rw[k2 hfl];exact hq.2.2⟩,←h,k2 hfl]
     exact⟨[i],rfl,rfl,fun j hj=>by simp at hj;subst hj;exact⟨b,hb⟩⟩
    |false=>
     rw[hfl]at h
     simp only[cond_false,acP]at h
     obtain⟨q,hq',rfl⟩:=h
     have hl:=Ia (k3 hfl)
     rw[if_pos ⟨hq.1,hq.2.1,by rw[hl];exact hq.2.2⟩]
     obtain⟨R',e1,e2,z1⟩:=aT (f':=rd d g') (k3 hfl) hq' (fun x' x q h1 h2=>IH 8 x' x q h1 h2)
     exact⟨i::R',by simp[e1],by simp[e2],fun j hj=>(af2.1 hj).elim (fun e=>e▸⟨b,hb⟩) (z1 j)⟩
   ·cases h
  |agg cs=>
   simp only[Dv,acP]at hx
   obtain⟨cs',hcs,rfl⟩:=hx
   simp only[rd,acP]at h
   obtain⟨q,hq,rfl⟩:=h
   obtain⟨R',e1,e2,z1⟩:=aF (f':=rd d g') hcs hq (fun x' x q h1 h2=>IH e x' x q h1 h2)
   exact⟨R',by simp[rd,e1],e2,z1⟩
  |iface t y=>
   simp only[Dv,acP]at hx
   obtain⟨y',hy,rfl⟩:=hx
   simp only[rd,acP]at h
   obtain⟨q,hq,rfl⟩:=h
   obtain⟨R',e1,e2,z1⟩:=IH e _ _ q hy hq
   exact⟨R',by simp[rd,e1],e2,z1⟩
  |func fn a b=>
   simp only[Dv,acQ,acP]at hx
   obtain⟨a1,ha,b1,hb,rfl⟩:=hx
   have la:=Ia ha
   have lb:=Ia hb
   cases a1 with
   |cons=>simp[rd]at h
   |nil=>
    cases b1 with
    |cons=>simp[rd]at h
    |nil=>
     simp at la lb
     obtain rfl:=la
     obtain rfl:=lb
     simp[rd]at h;subst h
     exact⟨[],rfl,rfl,fun i h=>by cases h⟩
  |ptr b r o=>
   simp only[Dv,acP]at hx
   obtain⟨b,hb,rfl⟩:=hx
   simp[rd]at h
  |tup cs=>
   simp only[Dv,acP]at hx
   obtain⟨b,hb,rfl⟩:=hx
   simp[rd]at h
  |yl b=>
   simp only[Dv,acP]at hx
   obtain⟨b,hb,rfl⟩:=hx
   simp[rd]at h
  |mapr b=>
   simp only[Dv,acP]at hx
   obtain⟨b,hb,rfl⟩:=hx
   simp[rd]at h
  |imm=>simp[Dv]at hx;subst hx;simp[rd]at h
  |iptr=>simp[Dv]at hx;subst hx;simp[rd]at h
  |_=>simp[Dv]at hx;subst hx;simp[rd]at h;subst h;exact⟨[],rfl,rfl,fun i h=>by cases h⟩
end
noncomputable section
open Go.RowKit
section
variable {P:Program} {O:Du} {pr:Ft}
def fnS(P:Program)(rs:List ResultVar)(x:R):Option (Dp × Aa):=
 match x with
 |some (.normal,s)|some (.ret,s)=>(Og P s rs).map fun vs=>(.ret (Jy vs),s.h)
 |some (.pan v,s)=>some (.pan v,s.h)
 |_=>none
theorem ai8{f:Nat}{fn:Func}(hf:P.funcs[f]?=some fn){c:Code}(hb:fn.body=some c){args:List AV}(hl:args.length≤fn.ntmps)(h:Aa):
 evS O P f args h=fnS P fn.results.toList (Bz O P Hm c [] ⟨mk fn.ntmps (Eg args),h⟩):=by
 unfold evS
 simp only[hf,hb]
 rw[zY _ _ hl]
 cases Bz O P Hm c [] ⟨mk fn.ntmps (Eg args),h⟩with
 |none=>rfl
 |some x=>
  obtain⟨e,s⟩:=x
  cases e<;>rfl
def FnS(P:Program)(rs:List ResultVar)(Q:Dp→Aa→Prop)(x:R):Prop:=∃o h,fnS P rs x=some (o,h)∧Q o h
def RtS(vs:Option (List AV))(h:Aa)(Q:Dp→Aa→Prop):Prop:=
 match vs with
 |some vs=>Q (.ret (Jy vs)) h
 |none=>False
theorem fR(rs:List ResultVar)(Q:Dp→Aa→Prop)(t:List AV)(h:Aa):FnS P rs Q (some (.ret,⟨t,h⟩))=RtS (Og P ⟨t,h⟩ rs) h Q:=by
 cases hr:Og P ⟨t,h⟩ rs with
 |none=>simp[FnS,fnS,RtS,hr]
 |some vs=>
  have e:fnS P rs (some (.ret,⟨t,h⟩))=some (.ret (Jy vs),h):=by simp[fnS,hr]
  exact propext (Iff.intro (fun⟨o,h',e',q⟩=>by rw[e]at e';cases e';exact q) (fun q=>⟨_,_,e,q⟩))
theorem xW(vs:List AV)(h:Aa)(Q:Dp→Aa→Prop):RtS (some vs) h Q=Q (.ret (Jy vs)) h:=acR rfl rfl
theorem aaS{rs:List ResultVar}{Q:Dp→Aa→Prop}:¬FnS P rs Q none:=fun⟨_,_,h,_⟩=>by simp[fnS]at h
def ShQ(O:Du)(f:Nat)(args:List AV)(h:Aa)(Q:Dp→Aa→Prop):Prop:=∃o h',O.call (.sh f) args h=some (o,h')∧Q o h'
theorem ShQ.start{f:Nat}{fn:Func}{c:Code}{args:List AV}{h:Aa}{Q:Dp→Aa→Prop}(hp:pr f=none)(hf:P.funcs[f]?=some fn)(hb:fn.body=some c)(hl:Nat.ble args.length fn.ntmps=true)
 (he:FnS P fn.results.toList Q (Bz (om P pr) P 5000 c [] ⟨mk fn.ntmps (Eg args),h⟩)):ShQ (om P pr) f args h Q:=by
 obtain⟨o,h',e,q⟩:=he
 exact⟨o,h',agD hp ((ai8 hf hb (Nat.le_of_ble_eq_true hl) h).trans e),q⟩
theorem ShQ.eq{f:Nat}{args:List AV}{h:Aa}{o:Dp}{h':Aa}(k:ShQ O f args h fun o1 h1=>(o1,h1)=(o,h')):O.call (.sh f) args h=some (o,h'):=by
 obtain⟨o1,h1,e,q⟩:=k
 rw[e,q]
def ncK(x:Option AV):OE:=
 match x with
 |some (.ptr b r o)=>some (.ret (.ptr b r o),[])
 |some (.iptr cs)=>some (.ret (.iptr cs),[])
 |some (.func (.func f) a c)=>some (.ret (.func (.func f) a c),[])
 |_=>none
theorem aj3(b r o:Nat):ncK (some (.ptr b r o))=some (.ret (.ptr b r o),[]):=acR rfl rfl
theorem amN(t:List AV)(h:Aa)(x:Operand):Dl O P t h (.nilCheck x)=ncK (Ac t x):=by
 rw[Ce _ _ _ rfl]
 simp only[exec,ncK]
 cases Ac t x with
 |none=>rfl
 |some v=>
  cases v with
  |func fn a c=>cases fn<;>rfl
  |_=>rfl
theorem al4(t:List AV)(h:Aa)(x:Operand):Xu O P t h (.nilCheck x)=some []:=acR rfl rfl
end
def EVq:=PLift.up (aaP @fR (aaP @xW (aaP @aj3 (aaP @amN @al4))))
end
noncomputable section
open Go.RowKit
section
variable {P:Program} {O:Du}
end
def Xh(k st:Nat)(fl:Bool)(rows:List (List AV))(v:AV)(g:Aa):Prop:=
 (rows=[]∧v=.nils)∨∃b w,v=.slr st (b+k) 0 rows.length∧g[b]?=some (.live st fl w rows)
def kl(k:Nat)(v:AV)(g:Aa):Aa:=
 match v with
 | .slr _ b _ _=>g.set (b-k) .dead
 |_=>g
theorem Xh.app{k st:Nat}{fl:Bool}{rows:List (List AV)}{v:AV}{g:Aa}(h:Xh k st fl rows v g)(l:Aa):Xh k st fl rows v (g++l):=by
 rcases h with h|⟨b,w,h1,h2⟩
 ·exact .inl h
 ·exact .inr ⟨b,w,h1,by rw[agI (acU.1 h2).1];exact h2⟩
theorem Ii(k:Nat)(v:AV)(g:Aa):(kl k v g).length=g.length:=by
 unfold kl;split<;>simp
theorem uE{k:Nat}{v:AV}{g:Aa}(h:Bq g=true):Bq (kl k v g)=true:=by
 unfold kl
 split
 ·simp only[Bq,ad5]at h ⊢
  intro c hc
  rcases List.mem_or_eq_of_mem_set hc with h1|rfl
  ·exact h c h1
  ·rfl
 ·exact h
def apE(v:AV)(st:Nat)(fl:Bool)(rows:List (List AV))(base:Nat):List Ab:=
 match v with
 | .slr _ b _ _=>[.put b .dead,.new base (.live st fl false rows)]
 |_=>[.new base (.live st fl false rows)]
theorem pQ{k n:Nat}{fl:Bool}{rows:List (List AV)}{v:AV}{g:Aa}(ho:Xh k n fl rows v g){pre:Aa}(hk:pre.length=k)(l:Aa)(r:List AV)(new:List (List AV))(hl:rows.length+(new.length+1)≤549755813888):
 qB n (pre++(g++l)) (some v) (some (fl,r::new))=some (.ret (.slr n (pre++(g++l)).length 0 (rows.length+(r::new).length)),apE v n fl (rows++r::new) (pre++(g++l)).length):=by
 rcases ho with⟨rfl,rfl⟩|⟨b,w,rfl,h2⟩
 ·rw[pF,if_pos (by simp at hl ⊢;omega)]
  simp[apE]
 ·have hb:=(acU.1 h2).1
  have hq:(pre++(g++l))[b+k]?=some (.live n fl w rows):=by
   rw[agP (by omega),agI (by omega)]
   rw[show b+k-pre.length=b by omega];exact h2
  rw[oQ,hq,lN,if_pos ⟨rfl,by omega,by simp only[ajX];omega⟩]
  simp[apE]
theorem lG{k n:Nat}{fl:Bool}{rows:List (List AV)}{v:AV}{g:Aa}(ho:Xh k n fl rows v g){pre:Aa}(hk:pre.length=k)(l:Aa)(st:Nat)(fl':Bool)(rows':List (List AV))(base:Nat):
 Bv (pre++(g++l)) (apE v st fl' rows' base)=pre++(kl k v g++(l++[.live st fl' false rows'])):=by
 rcases ho with⟨rfl,rfl⟩|⟨b,w,rfl,h2⟩
 ·simp[apE,Bv,Jb,kl]
 ·have hb:=(acU.1 h2).1
  simp only[apE,Bv,Jb,kl,Nat.add_sub_cancel]
  rw[List.set_append_right _ _ (by omega),show b+k-pre.length=b by omega,List.set_append_left _ _ hb]
  simp
def rdM(st:Nat)(x:Option (List (List AV))):Option AV:=x.map (.imm st false)
theorem aj1(q:AV→Option AV)(st:Nat)(w:Bool)(rows:List (List AV))(r len:Nat):rdS q (some (.live st false w rows)) r len=if r+len≤rows.length then rdM st (Ah (Ah q) ((rows.drop r).take len))else none:=by
 simp only[rdS,rdR]
 split<;>rfl
def pkd(O:Du)(f:Nat)(args:List AV):Prop:=dD args=true→(Zu args||O.md f)=false
theorem Rl{O:Du}{f:Nat}{args:List AV}(h:dD args=false):pkd O f args:=fun k=>by rw[h]at k;cases k
theorem oJ{O:Du}{h:Aa}{f:Nat}{args:List AV}(hd:pkd O f args):cl O h (some (.func (.func f) [] [])) (some args)=cr (Cf O (hf h) h.length (.fn f) args):=by
 rw[qW]
 simp only[ahB,agK]
 split
 ·rename_i hh
  unfold shC
  rw[hd hh];simp only[Bool.false_eq_true,if_false]
 ·rfl
theorem Xh.hd{k st:Nat}{fl:Bool}{rows:List (List AV)}{v:AV}{g:Aa}(h:Xh k st fl rows v g)(l:List AV){O:Du}{f:Nat}(hm:O.md f=false):pkd O f (v::l):=by
 rcases h with⟨_,rfl⟩|⟨b,w,rfl,_⟩
 ·exact Rl rfl
 ·intro _;simp[Zu,hm]
theorem Xh.argV{k st:Nat}{fl:Bool}{rows:List (List AV)}{v:AV}{g:Aa}(h:Xh k st fl rows v g){pre:Aa}(hk:pre.length=k)(l:Aa)(d:Nat)
 (hp:fl=false→∀g',Ah (Ah (Dn d g')) rows=some rows):∃nn,argV (d+1) (hf (pre++(g++l))) v=some (Ad st fl nn rows):=by
 rcases h with⟨rfl,rfl⟩|⟨b,w,rfl,h2⟩
 ·exact⟨false,rfl⟩
 ·refine⟨true,?_⟩
  have hb:=(acU.1 h2).1
  have hq:(pre++(g++l))[b+k]?=some (.live st fl w rows):=by
   rw[agP (by omega),agI (by omega)]
   rw[show b+k-pre.length=b by omega];exact h2
  rw[aiD,hq]
  cases fl with
  |true=>rw[kR];simp[Pl]
  |false=>rw[aj1];simp[hp rfl,rdM,Pl]
theorem Xh.ln{P:Program}{k st:Nat}{fl:Bool}{rows:List (List AV)}{v:AV}{g:Aa}(h:Xh k st fl rows v g){ty e:TypeId}(hu:P.underlying ty=some (.slice e)):ln P ty (some v)=some (.ret (.int .i64 rows.length),[]):=by
 rcases h with⟨rfl,rfl⟩|⟨b,w,rfl,_⟩
 ·simp[Ev.ln,iI,hu,r1]
 ·simp[Ev.ln,iI,hu,r1]
def ahL(a:Int)(i:Nat):Int:=a.fdiv (2 ^ (min i 64))
def alR(a:Int):Int:=IntKind.i64.wrap ((BitVec.ofInt 64 a&&&BitVec.ofInt 64 1).toNat:Int)
def wR(n:Nat):Int:=IntKind.i64.wrap (1*2 ^ (min n 64))
section
variable {P:Program} (ty:TypeId)
theorem akL(a:Int)(i:Nat):Ed P .shr ty (.int .i64 a) (.int .i64 (i:Int))=some (.int .i64 (ahL a i)):=by
 simp[Ed,ahL,IntKind.bits]
theorem ak1(a:Int):Ed P .and ty (.int .i64 a) (.int .i64 1)=some (.int .i64 (alR a)):=by
 show(if IntKind.i64=IntKind.i64 then Gg .and .i64 a 1 else none)=_
 rw[if_pos rfl];rfl
theorem aj7(n:Nat):Ed P .shl ty (.int .i64 1) (.int .i64 (n:Int))=some (.int .i64 (wR n)):=by
 simp[Ed,wR,IntKind.bits]
end
def EVr:=PLift.up (aaP @akL (aaP @ak1 @aj7))
end
noncomputable section
open Go.RowKit
section
variable {P:Program} {O:Du} {pr:Ft}
def akW(r:Bool)(x:Option Aa):Option (Dp × Aa):=x.map fun h2=>(.ret (.bool r),h2)
def anY(b:Nat)(x:R):Option (Dp × Aa):=
 match x with
 |some (.normal,s)=>akW true (Yx s.h b Qu.isBusy .ready)
 |some (.ret,s)=>akW false (Yx s.h b Qu.isBusy (.done .ret))
 |some (.exit i,s)=>akW false (Yx s.h b Qu.isBusy (.done (.exit i)))
 |_=>none
def RnE(b:Nat)(Q:Dp→Aa→Prop)(x:R):Prop:=∃o h',anY b x=some (o,h')∧Q o h'
theorem af1(h:Aa)(f:Nat)(args:List AV):pA O h f args=if(Zu args||O.md f)=true then some [.all]else ftR h args:=acR rfl rfl
theorem acM{b:Nat}{Q:Dp→Aa→Prop}:¬RnE b Q none:=fun⟨_,_,h,_⟩=>by simp[anY]at h
end
def Xe(f:Nat→Nat):Ax→Ax
 | .cells b o n=>.cells (f b) o n
 | .blk b=>.blk (f b)
 | .all=>.all
def lgF(f:Nat→Nat)(log:Oc):List (List Ax × List Ax):=log.map fun x=>(x.1.map fun e=>Xe f e.foot,x.2.map (Xe f))
def hY(x y:List Ax × List Ax):Bool:=x.1.any (fun f=>(y.1++y.2).any f.meets)||y.1.any (fun f=>x.2.any f.meets)
def fC(ops:List Oper)(lg:List (List Ax × List Ax)):Bool:=
 (Zd ops).all fun(i,j)=>match lg[i]?,lg[j]? with
   |some x,some y=> !hY x y
   |_,_=>false
def bI(n q:Nat)(b:Nat):Nat:=if b<q then b else b-n+1000
theorem aI{n q b:Nat}(h:b<q):bI n q b=b:=by simp[bI,h]
theorem bT(f:Nat→Nat)(x y:Ax)(h:x.meets y=true):(Xe f x).meets (Xe f y)=true:=by
 cases x<;>cases y<;>simp_all[Ax.meets,Xe]
theorem yN(f:Nat→Nat)(x y:List Ab × List Ax)(h:Ja x y=true):hY (x.1.map fun e=>Xe f e.foot,x.2.map (Xe f)) (y.1.map fun e=>Xe f e.foot,y.2.map (Xe f))=true:=by
 simp only[Ja,hY,alA,alB,ac6,ahD]at h ⊢
 rcases h with⟨a,⟨e,he,rfl⟩,b,hb,hm⟩|⟨a,⟨e,he,rfl⟩,b,hb,hm⟩
 ·refine .inl ⟨_,⟨e,he,rfl⟩,Xe f b,?_,bT f _ _ hm⟩
  rcases hb with⟨e',he',rfl⟩|hb
  ·exact .inl ⟨e',he',rfl⟩
  ·exact .inr ⟨b,hb,rfl⟩
 ·exact .inr ⟨_,⟨e,he,rfl⟩,Xe f b,⟨b,hb,rfl⟩,bT f _ _ hm⟩
theorem ac9(f:Nat→Nat){ops:List Oper}{log:Oc}(h:fC ops (lgF f log)=true):Dh ops log=true:=by
 simp only[fC,Dh,ad5]at h ⊢
 rintro⟨i,j⟩ hij
 have:=h (i,j) hij
 simp only[lgF,List.getElem?_map]at this ⊢
 cases hi:log[i]? with
 |none=>simp[hi]at this
 |some x=>
  cases hj:log[j]? with
  |none=>simp[hi,hj]at this
  |some y=>
   simp only[hi,hj,agG,alC,alD]at this ⊢
   cases hc:Ja x y with
   |false=>rfl
   |true=>rw[yN f x y hc]at this;cases this
theorem iK(n q:Nat){C:R→Prop}{ops:List Oper}{log:Oc}{k:R}(hb:fC ops (lgF (bI n q) log)=true)(h:True→C k):C (Eo (Dh ops log) k):=wO (ac9 _ hb) h
theorem fL(f:Nat→Nat):lgF f []=[]:=acR rfl rfl
theorem aE(f:Nat→Nat)(x:List Ab)(y:List Ax)(l:Oc):lgF f ((x,y)::l)=(x.map (fun e=>Xe f e.foot),y.map (Xe f))::lgF f l:=acR rfl rfl
theorem Rk(f:Nat→Nat)(b o n:Nat):Xe f (.cells b o n)=.cells (f b) o n:=acR rfl rfl
theorem Yi(f:Nat→Nat)(b:Nat):Xe f (.blk b)=.blk (f b):=acR rfl rfl
theorem bU(b:Nat)(c:CB):Ab.foot (.new b c)=.blk b:=acR rfl rfl
theorem Xd(b r o:Nat)(vs:List AV):Ab.foot (.cells b r o vs)=.cells b o vs.length:=acR rfl rfl
section
variable {P:Program} {O:Du}
theorem lY(t:List AV)(h:Aa)(ty:TypeId)(x i:Operand):Dl O P t h (.index ty x i)=r1 ((Ac t x).bind fun x=>(Ac t i).bind fun i=>Re P ty x i):=by
 rw[Ce _ _ _ rfl]
 simp only[exec]
 cases Ac t x with
 |none=>rfl
 |some a=>
  cases Ac t i with
  |none=>rfl
  |some b=>exact Em _
end
def EVs:=PLift.up (aaP @lY @lY)
end
noncomputable section
open Go.RowKit
set_option maxRecDepth 100000
def EVZ:=PLift.up (aaP EVa.down (aaP EVb.down (aaP EVc.down (aaP EVd.down (aaP EVe.down (aaP EVf.down (aaP EVg.down (aaP EVh.down (aaP EVi.down (aaP EVj.down (aaP EVk.down (aaP EVl.down (aaP EVm.down (aaP EVn.down (aaP EVo.down EVq.down)))))))))))))))
section
variable {P:Program} {O:Du}
class wI(C:R→Prop):Prop where
 no:¬C none
instance{q:Nat}{rs:List ResultVar}{Q:Dp→Aa→Prop}:wI (FnE P q rs Q):=⟨aaO⟩
instance{rs:List ResultVar}{Q:Dp→Aa→Prop}:wI (FnS P rs Q):=⟨aaS⟩
instance{N:Nat}{J:Tm→Aa→Prop}{Q:Ex→St→Prop}:wI (fS N J Q):=⟨aa0⟩
instance{b:Nat}{Q:Dp→Aa→Prop}:wI (RnE b Q):=⟨acM⟩
end
end
noncomputable section
open Go.RowKit
set_option maxRecDepth 100000
section
variable {P:Program} {O:Du}
class Spl(r:R)(b:outParam Bool)(x y:outParam R):Prop where
 sp:∀{C:R→Prop},(b=true→C x)→(b=false→C y)→C r
instance{n:Nat}{k:List Am}{d:Option Nat}{op:Op}{cs:List CO}{b w:Bool}{t:List AV}{h:Aa}:Spl (uR O P n k d op cs (.bool b) w t h) b (uR O P n k d op cs (.bool true) w t h) (uR O P n k d op cs (.bool false) w t h):=⟨amB⟩
instance{n:Nat}{x y:Code}{k:List Am}{g:Bool}{s:St}:Spl (cdK O P n x y k (some (.bool g)) s) g (Bz O P n x k s) (Bz O P n y k s):=⟨alQ⟩
instance{n:Nat}{k:List Am}{d:Option Nat}{op:Op}{cs:List CO}{b w:Bool}{t:List AV}{h:Aa}:Spl (rqG O P n k d op cs (.bool b) w t h) b (rqG O P n k d op cs (.bool true) w t h) (rqG O P n k d op cs (.bool false) w t h):=⟨am1⟩
instance{n:Nat}{k:List Am}{d:Option Nat}{op:Op}{cs:List CO}{b w:Bool}{t:List AV}{h:Aa}:Spl (rG O P n k d op cs (.bool b) w t h) b (rG O P n k d op cs (.bool true) w t h) (rG O P n k d op cs (.bool false) w t h):=⟨anC⟩
instance{n:Nat}{k:List Am}{ops:List Oper}{d:Option Nat}{op:Op}{cs:List CO}{b w:Bool}{t:List AV}{h:Aa}{log:Oc}:Spl (rlG O P n k ops d op cs (.bool b) w t h log) b (rlG O P n k ops d op cs (.bool true) w t h log) (rlG O P n k ops d op cs (.bool false) w t h log):=⟨anG⟩
theorem Au{C:R→Prop}{r x y:R}{b:Bool}(h1:b=true→C x)(h2:b=false→C y)(s:Spl r b x y:=by infer_instance):C r:=s.sp h1 h2
class Drw(i:Nat)(r:R)(c:outParam Bool)(r':outParam R):Prop where
 dr:∀{C:R→Prop},¬C none→c=true→C r'→C r
instance{b:Bool}{k:R}:Drw 0 (Eo b k) b k:=⟨fun _=>agE⟩
instance{n id:Nat}{ops:Array Oper}{k:List Am}{t:List AV}{h:Aa}:Drw 1 (Bz O P (n+1) (.region id ops true) k ⟨t,h⟩) (Jf ops.toList&&qI ops.toList) (rw O P n k (ops.toList.map (Fh ops.toList)) t h):=⟨fun h=>amF h⟩
instance{n id:Nat}{ops:Array Oper}{k:List Am}{t:List AV}{h:Aa}:Drw 2 (Bz O P (n+1) (.region id ops true) k ⟨t,h⟩) (Jf ops.toList&&amK ops.toList) (rq O P n k (ops.toList.map (Fh ops.toList)) t h):=⟨fun h=>am9 h⟩
instance{n id:Nat}{ops:Array Oper}{k:List Am}{t:List AV}{h:Aa}:Drw 3 (Bz O P (n+1) (.region id ops true) k ⟨t,h⟩) (Jf ops.toList) (rl O P n k ops.toList (ops.toList.map (Fh ops.toList)) t h []):=⟨fun h=>anM h⟩
structure Dw(r r':R):Prop where
 dr:∀{C:R→Prop},¬C none→C r'→C r
theorem dg{r r':R}{c:Bool}[d:Drw 0 r c r'](h:c=true:=by kernel_rfl):Dw r r':=⟨fun n k=>d.dr n h k⟩
theorem dw(i:Nat){r r':R}{c:Bool}[d:Drw i r c r'](h:c=true:=by decide+kernel):Dw r r':=⟨fun n k=>d.dr n h k⟩
theorem fd{C:R→Prop}{r r':R}[n:wI C](k:C r')(e:Dw r r':=by first|exact dg|exact dw 1|exact dw 2|exact dw 3):C r:=e.dr n.no k
theorem fdq{C:R→Prop}{r r':R}[n:wI C](k:C r')(e:Dw r r':=by first|exact dw 1|exact dw 2|exact dw 3):C r:=e.dr n.no k
end
section
variable {P:Program} {O:Du}
def Un(O:Du)(P:Program)(n:Nat)(k:List Am)(c:Code)(C:R→Prop):R→Prop
 |some (.normal,s)=>C (lpK O P n k (O.loop c s))
 |some (e,s)=>C (Bt (Bz O P n) k e s)
 |none=>False
theorem tL(n:Nat)(k:List Am)(c:Code)(C:R→Prop)(s:St):Un O P n k c C (some (.normal,s))=C (lpK O P n k (O.loop c s)):=acR rfl rfl
theorem adO(n:Nat)(k:List Am)(c:Code)(C:R→Prop)(i:Nat)(s:St):Un O P n k c C (some (.exit i,s))=C (Bt (Bz O P n) k (.exit i) s):=acR rfl rfl
theorem ajV(n:Nat)(k:List Am)(c:Code)(C:R→Prop)(s:St):Un O P n k c C (some (.ret,s))=C (Bt (Bz O P n) k .ret s):=acR rfl rfl
instance{n:Nat}{k:List Am}{c:Code}{C:R→Prop}:wI (Un O P n k c C):=⟨fun h=>h⟩
theorem al9{pr:Ft}{C:R→Prop}[N:wI C]{n:Nat}{k:List Am}{c:Code}{s:St}(h:Un (om P pr) P n k c C (Bz (om P pr) P 5000 c [] s)):C (lpK (om P pr) P n k ((om P pr).loop c s)):=by
 cases hm:Bz (om P pr) P 5000 c [] s with
 |none=>rw[hm]at h;exact h.elim
 |some x=>
  obtain⟨e,s'⟩:=x
  rw[hm]at h
  cases e with
  |normal=>
   replace h:C (lpK (om P pr) P n k ((om P pr).loop c s')):=h
   cases hl:(om P pr).loop c s' with
   |none=>rw[hl]at h;exact(N.no h).elim
   |some y=>
    obtain⟨e,s''⟩:=y
    rw[hl]at h
    rw[Qd hm hl];exact h
  |exit i=>rw[Ew hm (by simp)];exact h
  |ret=>rw[Ew hm (by simp)];exact h
  |pan v=>rw[Ew hm (by simp)];exact h
end
theorem acB:IntKind.i64.wrap 1=1:=acR rfl rfl
def EE:=PLift.up (aaP EVZ.down (aaP @acB (aaP @tL (aaP @adO (aaP @ajV (aaP @Fh.eq_1 (aaP @Ac.eq_1 (aaP @Ac.eq_2 (aaP @Ac.eq_4 (aaP @Bd.eq_1 (aaP @Bd.eq_2 (aaP @eG.eq_3 (aaP @Ux.eq_1 (aaP @Ux.eq_2 (aaP @Ux.eq_3 (aaP @Ux.eq_4 (aaP @Ux.eq_5 (aaP @Bv.eq_1 (aaP @Bv.eq_2 (aaP @Jb.eq_1 (aaP @Jb.eq_2 (aaP @Jb.eq_3 (aaP @Hk.eq_1 (aaP @Br.eq_1 (aaP @uP.eq_1 (aaP @Jy.eq_1 (aaP @Jy.eq_2 (aaP @decide_true @decide_false))))))))))))))))))))))))))))
def EF:=PLift.up (aaP EE.down EVr.down)
def EG:=PLift.up (aaP EF.down EVs.down)
end
noncomputable section
open Go.RowKit
def On(m:List Nat)(F:Nat→Option Nat):Prop:=∀i b,m[i]?=some b→F i=some b
theorem On.mono{m m':List Nat}{F:Nat→Option Nat}(h:On m' F)(hp:m <+:m'):On m F:=fun _ _ hi=>h _ _ (Gu hp hi)
structure Gd(m m' R:List Nat):Prop where
 pre:m <+:m'
 nd:m.Nodup→m'.Nodup
 sub:∀b∈m',b∈m∨b∈R
theorem Gd.refl(m R:List Nat):Gd m m R:=⟨akD _,id,fun _ h=>.inl h⟩
theorem Gd.trans{m m1 m2 R1 R2 R:List Nat}(h1:Gd m m1 R1)(h2:Gd m1 m2 R2)(k1:∀b∈R1,b∈R)(k2:∀b∈R2,b∈R):Gd m m2 R:=
 ⟨h1.pre.trans h2.pre,fun h=>h2.nd (h1.nd h),fun b hb=>(h2.sub b hb).elim (fun h=>(h1.sub b h).imp id (k1 b)) (fun h=>.inr (k2 b h))⟩
theorem mN(m:List Nat)(b:Nat){R:List Nat}(hb:b∈R):Gd m (place m b).2 R:=by
 refine⟨(Gs m b).2.1,(Gs m b).2.2,fun x hx=>?_⟩
 unfold place at hx
 split at hx
 ·exact .inl hx
 ·rcases ac6.1 hx with h|h
  ·exact .inl h
  ·simp at h;subst h;exact .inr hb
def Sp(e:Nat)(x:AV)(R:List Nat):Prop:=∀m,∃x' m',Bw e m x=some (x',m')∧Gd m m' R∧∀F,On m' F→Dv e F x'=some x
def SpL(e:Nat)(l:List AV)(R:List Nat):Prop:=∀m,∃l' m',Bw.refL (Bw e) m l=some (l',m')∧Gd m m' R∧∀F,On m' F→Ah (Dv e F) l'=some l
def SpR(l:List (List AV))(R:List Nat):Prop:=∀m,∃l' m',Fb m l=some (l',m')∧Gd m m' R∧∀F,On m' F→Ah (Ah (Dv 8 F)) l'=some l
theorem spL{f:AV→Option (AV × List Nat)}{e:Nat}:∀{l:List AV} {p:List AV × List Nat},Iy f l=some p→(∀x∈l,∀q,f x=some q→Sp e x q.2)→SpL e l p.2
 | [],p,h,_=>fun m=>⟨[],m,rfl,Gd.refl _ _,fun _ _=>rfl⟩
 |a::l,p,h,hf=>fun m=>by
  simp only[Iy,acQ,acP]at h
  obtain⟨q,hq,r,hr,rfl⟩:=h
  obtain⟨x',m1,e1,g1,k1⟩:=hf a (acT ..) q hq m
  obtain⟨l',m2,e2,g2,k2⟩:=spL hr (fun x hx=>hf x (acS _ hx)) m1
  refine⟨x'::l',m2,by simp[Bw.refL,e1,e2],g1.trans g2 (fun _ h=>afG _ h) (fun _ h=>afV _ h),fun F hF=>?_⟩
  simp[Ah,k1 F (hF.mono g2.pre),k2 F hF]
theorem spR{f:AV→Option (AV × List Nat)}:∀{l:List (List AV)} {p:List (List AV) × List Nat},Bh f l=some p→(∀r∈l,∀x∈r,∀q,f x=some q→Sp 8 x q.2)→SpR l p.2
 | [],p,h,_=>fun m=>⟨[],m,rfl,Gd.refl _ _,fun _ _=>rfl⟩
 |a::l,p,h,hf=>fun m=>by
  simp only[Bh,acQ,acP]at h
  obtain⟨q,hq,r,hr,rfl⟩:=h
  obtain⟨x',m1,e1,g1,k1⟩:=spL hq (hf a (acT ..)) m
  obtain⟨l',m2,e2,g2,k2⟩:=spR hr (fun x hx=>hf x (acS _ hx)) m1
  refine⟨x'::l',m2,by simp[Fb,e1,e2],g1.trans g2 (fun _ h=>afG _ h) (fun _ h=>afV _ h),fun F hF=>?_⟩
  simp[Ah,k1 F (hF.mono g2.pre),k2 F hF]
theorem sp{g:HF}:∀{d e:Nat} {v:AV} {p:AV × List Nat},d≤e→rd d g v=some p→Sp e v p.2
 |0,e,v,p,_,h=>by simp[rd]at h
 |d+1,0,v,p,he,h=>by omega
 |d+1,e+1,v,p,he,h=>by
  have IH:∀x q,rd d g x=some q→Sp e x q.2:=fun x q hx=>sp (by omega) hx
  intro m
  cases v with
  |slr st b r len=>
   simp only[rd,acQ]at h
   obtain⟨z,_,h⟩:=h
   split at h
   ·have hb:b∈p.2:=by
     cases hfl:z.2.1 with
     |true=>rw[hfl]at h;simp at h;rw[←h];simp
     |false=>rw[hfl]at h;simp only[cond_false,acP]at h;obtain⟨q,_,rfl⟩:=h;simp
    exact⟨_,_,rfl,mN m b hb,fun F hF=>by simp[Dv,hF _ _ (Gs m b).1]⟩
   ·cases h
  |agg cs=>
   simp only[rd,acP]at h
   obtain⟨q,hq,rfl⟩:=h
   obtain⟨l',m1,e1,g1,k1⟩:=spL hq (fun x _=>IH x) m
   exact⟨.agg l',m1,by simp[Bw,e1],g1,fun F hF=>by simp[Dv,k1 F hF]⟩
  |iface t x=>
   simp only[rd,acP]at h
   obtain⟨q,hq,rfl⟩:=h
   obtain⟨l',m1,e1,g1,k1⟩:=IH x q hq m
   exact⟨.iface t l',m1,by simp[Bw,e1],g1,fun F hF=>by simp[Dv,k1 F hF]⟩
  |func fn a b=>
   cases a with
   |cons=>simp[rd]at h
   |nil=>
    cases b with
    |cons=>simp[rd]at h
    |nil=>exact⟨_,m,rfl,Gd.refl _ _,fun _ _=>rfl⟩
  |ptr b r o=>simp[rd]at h
  |tup cs=>simp[rd]at h
  |yl b=>simp[rd]at h
  |mapr b=>simp[rd]at h
  |imm=>simp[rd]at h
  |iptr=>simp[rd]at h
  |_=>exact⟨_,m,rfl,Gd.refl _ _,fun _ _=>rfl⟩
def Cl(g:HF)(S:List Nat):Prop:=∀b∈S,∃z,(g b).bind Az=some z∧(z.2.1=false→∃d q,d≤8∧Bh (rd d g) z.2.2=some q∧∀x∈q.2,x∈S)
theorem Cl.nil(g:HF):Cl g []:=fun _ h=>by cases h
theorem Cl.app{g:HF}{S T:List Nat}(h1:Cl g S)(h2:Cl g T):Cl g (S++T):=fun b hb=>by
 rcases ac6.1 hb with h|h
 ·obtain⟨z,k1,k2⟩:=h1 b h
  exact⟨z,k1,fun e=>by obtain⟨d,q,a1,a2,a3⟩:=k2 e;exact⟨d,q,a1,a2,fun x hx=>afG _ (a3 x hx)⟩⟩
 ·obtain⟨z,k1,k2⟩:=h2 b h
  exact⟨z,k1,fun e=>by obtain⟨d,q,a1,a2,a3⟩:=k2 e;exact⟨d,q,a1,a2,fun x hx=>afV _ (a3 x hx)⟩⟩
theorem clL{g:HF}{f:AV→Option (AV × List Nat)}:∀{l:List AV} {p:List AV × List Nat},Iy f l=some p→(∀x∈l,∀q,f x=some q→Cl g q.2)→Cl g p.2
 | [],p,h,_=>by simp[Iy]at h;subst h;exact Cl.nil g
 |a::l,p,h,hf=>by
  simp only[Iy,acQ,acP]at h
  obtain⟨q,hq,r,hr,rfl⟩:=h
  exact(hf a (acT ..) q hq).app (clL hr fun x hx=>hf x (acS _ hx))
theorem clR{g:HF}{f:AV→Option (AV × List Nat)}:∀{l:List (List AV)} {p:List (List AV) × List Nat},Bh f l=some p→(∀r∈l,∀x∈r,∀q,f x=some q→Cl g q.2)→Cl g p.2
 | [],p,h,_=>by simp[Bh]at h;subst h;exact Cl.nil g
 |a::l,p,h,hf=>by
  simp only[Bh,acQ,acP]at h
  obtain⟨q,hq,r,hr,rfl⟩:=h
  exact(clL hq (hf a (acT ..))).app (clR hr fun x hx=>hf x (acS _ hx))
theorem bM{g:HF}:∀{d:Nat} {v:AV} {p:AV × List Nat},d≤9→rd d g v=some p→Cl g p.2
 |0,v,p,_,h=>by simp[rd]at h
 |d+1,v,p,hd,h=>by
  have IH:∀x q,rd d g x=some q→Cl g q.2:=fun x q hx=>bM (by omega) hx
  cases v with
  |slr st b r len=>
   simp only[rd,acQ]at h
   obtain⟨z,hz,h⟩:=h
   have hz':(g b).bind Az=some z:=acQ.2 hz
   split at h
   ·cases hfl:z.2.1 with
    |true=>
     rw[hfl]at h;simp at h;rw[←h]
     intro b' hb'
     simp at hb';subst hb'
     exact⟨z,hz',fun e=>by rw[hfl]at e;cases e⟩
    |false=>
     rw[hfl]at h;simp only[cond_false,acP]at h
     obtain⟨q,hq,rfl⟩:=h
     intro b' hb'
     rcases af2.1 hb' with rfl|hb'
     ·exact⟨z,hz',fun _=>⟨d,q,by omega,hq,fun x hx=>acS _ hx⟩⟩
     ·obtain⟨z',k1,k2⟩:=clR hq (fun r _ x _=>IH x) b' hb'
      exact⟨z',k1,fun e=>by obtain⟨d',q',a1,a2,a3⟩:=k2 e;exact⟨d',q',a1,a2,fun x hx=>acS _ (a3 x hx)⟩⟩
   ·cases h
  |agg cs=>
   simp only[rd,acP]at h
   obtain⟨q,hq,rfl⟩:=h
   exact clL hq fun x _=>IH x
  |iface t x=>
   simp only[rd,acP]at h
   obtain⟨q,hq,rfl⟩:=h
   exact IH x q hq
  |func fn a b=>
   cases a<;>cases b<;>first|(simp[rd]at h;subst h;exact Cl.nil g)|(simp[rd]at h)
  |_=>first|(simp[rd]at h;subst h;exact Cl.nil g)|(simp[rd]at h)
theorem Ya{F:Nat→Option Nat}(f:Nat→Nat):∀{e:Nat} {x' x:AV},Dv e F x'=some x→∃y,Bf e f x'=some y
 |0,x',x,h=>by simp[Dv]at h
 |e+1,x',x,h=>by
  have L:∀{l l1:List AV},Ah (Dv e F) l=some l1→∃y,Ah (Bf e f) l=some y:=fun {l}=>by
   induction l with
   |nil=>exact fun _=>⟨[],rfl⟩
   |cons a l ih=>
    intro l1 h
    simp only[Ah,acQ,acP]at h
    obtain⟨b,hb,c,hc,_⟩:=h
    obtain⟨y,hy⟩:=Ya f hb
    obtain⟨ys,hys⟩:=ih hc
    exact⟨y::ys,by simp[Ah,hy,hys]⟩
  cases x' with
  |agg cs=>simp only[Dv,acP]at h;obtain⟨_,h,_⟩:=h;obtain⟨y,hy⟩:=L h;exact⟨.agg y,by simp[Bf,hy]⟩
  |tup cs=>simp only[Dv,acP]at h;obtain⟨_,h,_⟩:=h;obtain⟨y,hy⟩:=L h;exact⟨.tup y,by simp[Bf,hy]⟩
  |iface t x=>simp only[Dv,acP]at h;obtain⟨_,h,_⟩:=h;obtain⟨y,hy⟩:=Ya f h;exact⟨.iface t y,by simp[Bf,hy]⟩
  |func fn a b=>
   simp only[Dv,acQ,acP]at h
   obtain⟨_,h1,_,h2,_⟩:=h
   obtain⟨y,hy⟩:=L h1
   obtain⟨y2,hy2⟩:=L h2
   exact⟨.func fn y y2,by simp[Bf,hy,hy2]⟩
  |_=>exact⟨_,rfl⟩
theorem fV{α β γ:Type}{f:α→Option β}{f':α→Option γ}(H:∀a b,f a=some b→∃c,f' a=some c):∀{l:List α} {r:List β},Ah f l=some r→∃s,Ah f' l=some s
 | [],_,_=>⟨[],rfl⟩
 |a::l,r,h=>by
  simp only[Ah,acQ,acP]at h
  obtain⟨b,hb,c,hc,_⟩:=h
  obtain⟨y,hy⟩:=H a b hb
  obtain⟨ys,hys⟩:=fV H hc
  exact⟨y::ys,by simp[Ah,hy,hys]⟩
def Stn(F:Nat→Option Nat)(c':CB)(z:Nat × Bool × List (List AV)):Prop:=
 ∃rows',Az c'=some (z.1,z.2.1,rows')∧(z.2.1=true→rows'=z.2.2)∧(z.2.1=false→Ah (Ah (Dv 8 F)) rows'=some z.2.2)
def vY(c:CB):Prop:=∀f,∃c',Dk f c=some c'
theorem spB{g:HF}{S:List Nat}(H:Cl g S){b:Nat}(hb:b∈S)(m:List Nat):∃c c' m' z,g b=some c∧Az c=some z∧Oy m c=some (c',m')∧Gd m m' S∧(∀F,On m' F→Stn F c' z)∧vY c':=by
 obtain⟨z,hz,hc⟩:=H b hb
 obtain⟨c,k1,k2⟩:=acQ.1 hz
 have R:∀rows,z.2.1=false→rows=z.2.2→∃l' m',Fb m rows=some (l',m')∧Gd m m' S∧∀F,On m' F→Ah (Ah (Dv 8 F)) l'=some rows:=fun rows e er=>by
  obtain⟨d,q,a1,a2,a3⟩:=hc e
  obtain⟨l',m',e1,g1,e2⟩:=spR (er▸a2) (fun r _ x _ q hx=>sp a1 hx) m
  exact⟨l',m',e1,⟨g1.pre,g1.nd,fun x hx=>(g1.sub x hx).imp id (a3 x)⟩,e2⟩
 have R2:∀l' rows m',(∀F,On m' F→Ah (Ah (Dv 8 F)) l'=some rows)→∀f,∃y,Ah (Ah (Bf 8 f)) l'=some y:=fun l' rows m' h f=>
  fV (fun a b hab=>fV (fun a b hab=>Ya f hab) hab) (h (fun i=>m'[i]?) (fun _ _ h=>h))
 cases c with
 |live st fl w rows=>
  simp[Az]at k2;subst k2
  cases fl with
  |true=>exact⟨_,_,m,_,k1,rfl,rfl,Gd.refl _ _,fun F _=>⟨rows,rfl,fun _=>rfl,fun e=>by cases e⟩,fun f=>⟨_,rfl⟩⟩
  |false=>
   obtain⟨l',m',e1,g1,e2⟩:=R rows rfl rfl
   refine⟨_,.live st false w l',m',_,k1,rfl,by simp[Oy,e1],g1,fun F hF=>⟨l',rfl,fun e=>(by cases e),fun _=>e2 F hF⟩,fun f=>?_⟩
   obtain⟨y,hy⟩:=R2 l' rows m' e2 f
   exact⟨.live st false w y,by simp[Dk,hy]⟩
 |frz st fl rows=>
  simp[Az]at k2;subst k2
  cases fl with
  |true=>exact⟨_,_,m,_,k1,rfl,rfl,Gd.refl _ _,fun F _=>⟨rows,rfl,fun _=>rfl,fun e=>by cases e⟩,fun f=>⟨_,rfl⟩⟩
  |false=>
   obtain⟨l',m',e1,g1,e2⟩:=R rows rfl rfl
   refine⟨_,.frz st false l',m',_,k1,rfl,by simp[Oy,e1],g1,fun F hF=>⟨l',rfl,fun e=>(by cases e),fun _=>e2 F hF⟩,fun f=>?_⟩
   obtain⟨y,hy⟩:=R2 l' rows m' e2 f
   exact⟨.frz st false y,by simp[Dk,hy]⟩
 |dead=>simp[Az]at k2
 |lp=>simp[Az]at k2
theorem ab1{S:List Nat}:∀{m:List Nat},m.Nodup→(∀b∈m,b∈S)→m.length≤S.length:=by
 induction S with
 |nil=>intro m _ h;cases m with
  |nil=>simp
  |cons a m=>exact absurd (h a (acT ..)) (by simp)
 |cons s S ih=>
  intro m hn h
  have h2:=ih (m:=m.erase s) (hn.erase s) (fun b hb=>by
   have hb':=List.mem_of_mem_erase hb
   rcases af2.1 (h b hb')with rfl|h'
   ·exact absurd hb (hn.not_mem_erase)
   ·exact h')
  have h3:m.length≤(m.erase s).length+1:=by
   by_cases hs:s∈m
   ·rw[List.length_erase_of_mem hs];omega
   ·rw[List.erase_of_not_mem hs];omega
  simp;omega
theorem spC{g:HF}{S:List Nat}(H:Cl g S):∀(n i:Nat) (m:List Nat),m.Nodup→(∀b∈m,b∈S)→S.length<n+i→i≤m.length→
 ∃cs m',Fo n g i m=some (cs,m')∧m <+:m'∧m'.Nodup∧(∀b∈m',b∈S)∧i+cs.length=m'.length∧(∀c∈cs,vY c)∧
  ∀F,On m' F→∀j c',cs[j]?=some c'→∃b z,m'[i+j]?=some b∧(g b).bind Az=some z∧Stn F c' z
 |0,i,m,hn,hs,hl,hi=>by have:=ab1 hn hs;omega
 |n+1,i,m,hn,hs,hl,hi=>by
  unfold Fo
  cases hm:m[i]? with
  |none=>
   have:m.length≤i:=alE.1 hm
   exact⟨[],m,rfl,akD _,hn,hs,by simp;omega,(fun c hc=>by cases hc),fun F _ j c' hj=>by simp at hj⟩
  |some b=>
   have hlt:=(acU.1 hm).1
   obtain⟨c,c',m1,z,k1,k2,k3,g1,k4,k5⟩:=spB H (hs b (ahO hm)) m
   obtain⟨cs,m',e1,p1,p2,p3,p4,p5,p6⟩:=spC H n (i+1) m1 (g1.nd hn) (fun b hb=>(g1.sub b hb).elim (hs b) id) (by omega) (by have:=g1.pre.length_le;omega)
   refine⟨c'::cs,m',by simp[k1,k3,e1],g1.pre.trans p1,p2,p3,by simp;omega,fun x hx=>?_,fun F hF j x hj=>?_⟩
   ·rcases af2.1 hx with rfl|hx
    ·exact k5
    ·exact p5 x hx
   ·cases j with
    |zero=>
     simp at hj;subst hj
     exact⟨b,z,Gu (g1.pre.trans p1) (by simpa using hm),by rw[k1];exact k2,k4 F (hF.mono p1)⟩
    |succ j=>
     simp at hj
     obtain⟨b',z',a1,a2,a3⟩:=p6 F hF j x hj
     exact⟨b',z',by rw[←a1];congr 1;omega,a2,a3⟩
theorem aj8{h:Aa}{v:AV}{R:List Nat}(hs:Sp 8 v R)(hc:Cl (hf h) R)(hR:R.length<5000):
 ∃v' cs F,Iw 0 v h=some (v',cs)∧uB F (hf cs) (hf h)∧Dv 8 F v'=some v∧∀c∈cs,vY c:=by
 obtain⟨v',m,e1,g1,k1⟩:=hs []
 have hm:∀b∈m,b∈R:=fun b hb=>(g1.sub b hb).elim (fun h=>by cases h) id
 obtain⟨cs,m',e2,p1,p2,p3,p4,p5,p6⟩:=spC hc 5000 0 m (g1.nd alF) hm (by omega) (Nat.zero_le _)
 refine⟨v',cs,fun i=>m'[i]?,by simp[Iw,Gn,Bw.refL,e1,e2,ai7],fun i b hi z hz=>?_,k1 _ (fun _ _ h=>Gu p1 h),p5⟩
 have hlt:=(acU.1 hi).1
 obtain⟨b',z',a1,a2,rows',a3,a4,a5⟩:=p6 (fun i=>m'[i]?) (fun _ _ h=>h) i _ (aeG (by omega))
 rw[ak7]at a1
 have hbb:b=b':=by have hi':m'[i]?=some b:=hi;rw[hi']at a1;cases a1;rfl
 subst hbb
 rw[hz]at a2;cases a2
 exact⟨rows',by show(cs[i]?).bind Az=_;rw[aeG (by omega)];exact a3,a4,a5⟩
end
end Go.Ev
namespace Go.Ev
open Go.RowKit
theorem Oh{f:Nat→Nat}{F:Nat→Option Nat}(hF:∀b,F (f b)=some b):∀{e:Nat} {x x1:AV},Bf e f x=some x1→Dv e F x1=some x
 |0,x,x1,h=>by simp[Bf]at h
 |e+1,x,x1,h=>by
  have L:∀{l l1:List AV},Ah (Bf e f) l=some l1→Ah (Dv e F) l1=some l:=fun {l}=>by
   induction l with
   |nil=>intro l1 h;simp[Ah]at h;subst h;rfl
   |cons a l ih=>
    intro l1 h
    simp only[Ah,acQ,acP]at h
    obtain⟨b,hb,c,hc,rfl⟩:=h
    simp[Ah,Oh hF hb,ih hc]
  cases x with
  |agg cs=>simp only[Bf,acP]at h;obtain⟨_,h,rfl⟩:=h;simp[Dv,L h]
  |tup cs=>simp only[Bf,acP]at h;obtain⟨_,h,rfl⟩:=h;simp[Dv,L h]
  |iface t x=>simp only[Bf,acP]at h;obtain⟨_,h,rfl⟩:=h;simp[Dv,Oh hF h]
  |func fn a b=>
   simp only[Bf,acQ,acP]at h
   obtain⟨_,h1,_,h2,rfl⟩:=h
   simp[Dv,L h1,L h2]
  |_=>simp only[Bf,ahZ.injEq]at h;subst h;simp[Dv,hF]
theorem Or{α β:Type}{f:α→Option β}{f':β→Option α}(H:∀a b,f a=some b→f' b=some a):∀{l:List α} {r:List β},Ah f l=some r→Ah f' r=some l
 | [],r,h=>by simp[Ah]at h;subst h;rfl
 |a::l,r,h=>by
  simp only[Ah,acQ,acP]at h
  obtain⟨b,hb,c,hc,rfl⟩:=h
  simp[Ah,H a b hb,Or H hc]
theorem kG{f:Nat→Nat}:∀{cs:List CB} (_:∀c∈cs,vY c) (base:Nat),∃ns cs1,Ff f base cs=some ns∧(∀G,Bv G ns=G++cs1)∧Ah (Dk f) cs=some cs1
 | [],_,base=>⟨[],[],rfl,fun G=>by simp[Bv],rfl⟩
 |c::cs,h,base=>by
  obtain⟨c1,e1⟩:=h c (acT ..) f
  obtain⟨ns,cs1,e2,e3,e4⟩:=kG (f:=f) (cs:=cs) (fun c hc=>h c (acS _ hc)) (base+1)
  exact⟨.new base c1::ns,c1::cs1,by simp[Ff,e1,e2],fun G=>by simp[Bv,Jb,e3],by simp[Ah,e1,e4]⟩
theorem yP{f:Nat→Nat}{F:Nat→Option Nat}(hF:∀b,F (f b)=some b){c c1:CB}(h:Dk f c=some c1){z:Nat × Bool × List (List AV)}(hz:Az c=some z):Stn F c1 z:=by
 cases c with
 |live st fl w rows=>
  simp[Az]at hz;subst hz
  cases fl with
  |true=>simp[Dk]at h;subst h;exact⟨rows,rfl,fun _=>rfl,fun e=>by cases e⟩
  |false=>
   simp only[Dk,acP]at h
   obtain⟨r,hr,rfl⟩:=h
   exact⟨r,rfl,fun e=>(by cases e),fun _=>Or (fun a b hab=>Or (fun a b hab=>Oh hF hab) hab) hr⟩
 |frz st fl rows=>
  simp[Az]at hz;subst hz
  cases fl with
  |true=>simp[Dk]at h;subst h;exact⟨rows,rfl,fun _=>rfl,fun e=>by cases e⟩
  |false=>
   simp only[Dk,acP]at h
   obtain⟨r,hr,rfl⟩:=h
   exact⟨r,rfl,fun e=>(by cases e),fun _=>Or (fun a b hab=>Or (fun a b hab=>Oh hF hab) hab) hr⟩
 |dead=>simp[Az]at hz
 |lp=>simp[Az]at hz
structure Kp(lent:List Nat)(H H1:Aa):Prop where
 len:H.length≤H1.length
 rows:∀b,b<H.length→(hf H1 b).bind Az=(hf H b).bind Az
 same:∀b,b<H.length→b∉lent→H1[b]?=H[b]?
end Go.Ev
namespace Go.Ev
noncomputable section
open Go.RowKit
theorem fdx{C:R→Prop}{r r':R}[n:wI C](k:C r')(e:Dw r r':=by first|exact dw 1|exact dw 3):C r:=e.dr n.no k
theorem gW{g:HF}(f:Nat→Nat):∀{d e:Nat} {v:AV} {p:AV × List Nat},d≤e→rd d g v=some p→∃y,Bf e f v=some y
 |0,e,v,p,_,h=>by simp[rd]at h
 |d+1,0,v,p,he,h=>by omega
 |d+1,e+1,v,p,he,h=>by
  have L:∀{l:List AV} {q:List AV × List Nat},Iy (rd d g) l=some q→∃y,Ah (Bf e f) l=some y:=fun {l}=>by
   induction l with
   |nil=>exact fun _=>⟨[],rfl⟩
   |cons a l ih=>
    intro q h
    simp only[Iy,acQ,acP]at h
    obtain⟨b,hb,c,hc,_⟩:=h
    obtain⟨y,hy⟩:=gW f (show d≤e by omega) hb
    obtain⟨ys,hys⟩:=ih hc
    exact⟨y::ys,by simp[Ah,hy,hys]⟩
  cases v with
  |agg cs=>simp only[rd,acP]at h;obtain⟨_,h,_⟩:=h;obtain⟨y,hy⟩:=L h;exact⟨.agg y,by simp[Bf,hy]⟩
  |iface t x=>simp only[rd,acP]at h;obtain⟨_,h,_⟩:=h;obtain⟨y,hy⟩:=gW f (show d≤e by omega) h;exact⟨.iface t y,by simp[Bf,hy]⟩
  |func fn a b=>
   cases a<;>cases b<;>first|exact⟨_,rfl⟩|(simp[rd]at h)
  |tup cs=>simp[rd]at h
  |_=>exact⟨_,rfl⟩
theorem aM{g:HF}:∀{d e:Nat} {v:AV} {p:AV × List Nat},d≤e→rd d g v=some p→argV e g v=some p.1
 |0,e,v,p,_,h=>by simp[rd]at h
 |d+1,0,v,p,he,h=>by omega
 |d+1,e+1,v,p,he,h=>by
  cases v with
  |slr st b r len=>exact aB (gP he h)
  |agg cs=>
   simp only[rd,acP]at h
   obtain⟨q,hq,rfl⟩:=h
   simp[argV,Vz (f':=argV e g) hq (fun x _ q' hx=>aM (show d≤e by omega) hx)]
  |iface t x=>
   simp only[rd,acP]at h
   obtain⟨q,hq,rfl⟩:=h
   simp[argV,aM (show d≤e by omega) hq]
  |func fn a b=>cases a<;>cases b<;>first|(simp[rd]at h;subst h;rfl)|(simp[rd]at h)
  |_=>first|(simp[rd]at h;subst h;rfl)|(simp[rd]at h)
theorem abY{f:AV→Option (AV × List Nat)}{f':AV→List Nat}:∀{l:List AV} {p:List AV × List Nat},Iy f l=some p→(∀x∈l,∀q,f x=some q→∀b∈f' x,b∈q.2)→∀b∈l.flatMap f',b∈p.2
 | [],p,h,_=>fun b hb=>by simp at hb
 |a::l,p,h,hf=>fun b hb=>by
  simp only[Iy,acQ,acP]at h
  obtain⟨q,hq,r,hr,rfl⟩:=h
  rw[ai3]at hb
  rcases ac6.1 hb with hb|hb
  ·exact afG _ (hf a (acT ..) q hq b hb)
  ·exact afV _ (abY hr (fun x hx=>hf x (acS _ hx)) b hb)
theorem agJ{f:AV→Option (AV × List Nat)}{f':AV→List Nat}:∀{l:List (List AV)} {p:List (List AV) × List Nat},Bh f l=some p→(∀r∈l,∀x∈r,∀q,f x=some q→∀b∈f' x,b∈q.2)→∀b∈l.flatMap (fun cs=>cs.flatMap f'),b∈p.2
 | [],p,h,_=>fun b hb=>by simp at hb
 |a::l,p,h,hf=>fun b hb=>by
  simp only[Bh,acQ,acP]at h
  obtain⟨q,hq,r,hr,rfl⟩:=h
  rw[ai3]at hb
  rcases ac6.1 hb with hb|hb
  ·exact afG _ (abY hq (hf a (acT ..)) b hb)
  ·exact afV _ (agJ hr (fun x hx=>hf x (acS _ hx)) b hb)
theorem aK{g:HF}:∀{e d:Nat} {v:AV} {p:AV × List Nat},rd d g v=some p→∀b∈Ao e g v,b∈p.2
 |0,d,v,p,_,b,hb=>by simp[Ao]at hb
 |e+1,0,v,p,h,b,hb=>by simp[rd]at h
 |e+1,d+1,v,p,h,b,hb=>by
  cases v with
  |slr st c r len=>
   simp only[rd,acQ]at h
   obtain⟨z,hz,h⟩:=h
   split at h
   ·rename_i hq
    obtain⟨rfl,rfl,rfl⟩:=hq
    simp only[Ao,Xb (acQ.2 hz)]at hb
    cases hfl:z.2.1 with
    |true=>rw[hfl]at h hb;simp at h hb;rw[←h];simp[hb]
    |false=>
     rw[hfl]at h hb
     simp only[cond_false,acP]at h
     obtain⟨q,hq',rfl⟩:=h
     rcases af2.1 hb with rfl|hb
     ·exact acT ..
     ·exact acS _ (agJ hq' (fun r _ x _ q' hx b hb=>aK hx b hb) b (by simpa using hb))
   ·cases h
  |agg cs=>
   simp only[rd,acP]at h
   obtain⟨q,hq,rfl⟩:=h
   exact abY hq (fun x _ q' hx b hb=>aK hx b hb) b hb
  |iface t x=>
   simp only[rd,acP]at h
   obtain⟨q,hq,rfl⟩:=h
   exact aK hq b hb
  |_=>simp[Ao]at hb
theorem zB{e:Nat}{F:Nat→Option Nat}{v:AV}{outs:List AV}(h:Dv (e+1) F v=some (.tup outs)):∃o,v=.tup o∧Ah (Dv e F) o=some outs:=by
 cases v with
 |tup cs=>simp[Dv]at h;exact⟨_,rfl,h⟩
 |func fn a b=>simp only[Dv,acQ,acP]at h;obtain⟨_,_,_,_,h⟩:=h;cases h
 |_=>simp[Dv]at h
def RdV(O:Du)(f:Nat)(vs:List AV)(x:AV)(k:Nat):Prop:=
 ∃v h' R,O.call (.fn f) vs []=some (.ret v,h')∧rd 6 (hf h') v=some (x,R)∧R.length≤k∧∀c∈h',vY c
theorem Ry{O:Du}{H:Aa}{f:Nat}{args vs:List AV}{v:AV}(hh:pkd O f args)(ha:Ah (Vi H) args=some vs)(hp:vs.all (Ar 8)=true)(hc:O.call (.fn f) vs []=some (.ret v,[]))(h1:Ar 8 v=true)(h2:hasImm 8 v=false):
 cl O H (some (.func (.func f) [] [])) (some args)=some (.ret v,[]):=by
 rw[oJ hh,qH ha hp,hc,eW,if_pos ⟨h1,h2⟩]
theorem abR{h:Aa}{v x:AV}{R:List Nat}{Q:Dp→Aa→Prop}(h1:rd 6 (hf h) v=some (x,R))(hR:R.length<5000)
 (q:∀v' h' R',rd 6 (hf h') v'=some (x,R')→R'.length=R.length→(∀c∈h',vY c)→Q (.ret v') h'):Rt 0 (some [v]) h Q:=by
 obtain⟨v',cs,F,e1,e2,e3,e4⟩:=aj8 (sp (e:=8) (by omega) h1) (bM (by omega) h1) hR
 obtain⟨R',k1,k2,_⟩:=gU e2 e3 h1
 exact⟨_,_,by simp[wF,Jy,e1],q _ _ _ k1 k2 e4⟩
theorem Dt{C:R→Prop}[n:wI C]{r:R}(h:∀K:R→Prop,wI K→(∀x,C x→K x)→K r):C r:=h C n fun _ h=>h
theorem bJ{v:AV}{H:Aa}{b:Nat}(l:List CB)(hb:b<H.length)(hv:∀a c r m,v=.slr a c r m→c≠b):(kl 0 v H++l)[b]?=H[b]?:=by
 rw[agI (by rw[Ii];exact hb)]
 unfold kl
 split
 ·rename_i a c r m
  rw[List.getElem?_set_ne];simpa using hv a c r m rfl
 ·rfl
theorem ahE{g:HF}{d:Nat}{v:AV}{p:AV × List Nat}(hd:d≤9)(h:rd d g v=some p):∀b∈p.2,∃z,(g b).bind Az=some z:=fun b hb=>by
 obtain⟨z,hz,_⟩:=bM hd h b hb
 exact⟨z,hz⟩
theorem Tj{H:Aa}{b:Nat}{z:Nat × Bool × List (List AV)}(h:(hf H b).bind Az=some z):b<H.length:=by
 obtain⟨c,hc,_⟩:=acQ.1 h
 exact(acU.1 hc).1
theorem Kv{g g':HF}{d:Nat}{l:List AV}{p:List AV × List Nat}(h:Iy (rd d g) l=some p)(ha:wL p.2 g g'):Iy (rd d g') l=some p:=
 Oz h fun _ _ _ hq hs=>Jz hq fun b hb=>ha b (hs b hb)
theorem Jk{g g':HF}{d:Nat}{l:List (List AV)}{p:List (List AV) × List Nat}(h:Bh (rd d g) l=some p)(ha:wL p.2 g g'):Bh (rd d g') l=some p:=
 Md h fun _ _ _ _ _ hq hs=>Jz hq fun b hb=>ha b (hs b hb)
theorem fN{H:Aa}{d:Nat}{l:List AV}{p:List AV × List Nat}(hd:d≤9)(h:Iy (rd d (hf H)) l=some p):∀b∈p.2,b<H.length:=fun b hb=>by
 obtain⟨z,hz,_⟩:=clL h (fun x _ q hx=>bM hd hx) b hb
 exact Tj hz
theorem eC{H:Aa}{d:Nat}{l:List (List AV)}{p:List (List AV) × List Nat}(hd:d≤9)(h:Bh (rd d (hf H)) l=some p):∀b∈p.2,b<H.length:=fun b hb=>by
 obtain⟨z,hz,_⟩:=clR h (fun r _ x _ q hx=>bM hd hx) b hb
 exact Tj hz
theorem Uy{f:AV→Option (AV × List Nat)}:∀{l:List (List AV)} {p:List (List AV) × List Nat},Bh f l=some p→l.length=p.1.length
 | [],p,h=>by simp[Bh]at h;subst h;rfl
 |a::l,p,h=>by
  simp only[Bh,acQ,acP]at h
  obtain⟨q,hq,r,hr,rfl⟩:=h
  simp[Uy hr]
theorem bQ{f:AV→Option (AV × List Nat)}:∀{l:List (List AV)} {p:List (List AV) × List Nat} {i:Nat} {X:List AV},Bh f l=some p→p.1[i]?=some X→∃r R,l[i]?=some r∧Iy f r=some (X,R)
 | [],p,i,X,h,hx=>by simp[Bh]at h;subst h;simp at hx
 |a::l,p,i,X,h,hx=>by
  simp only[Bh,acQ,acP]at h
  obtain⟨q,hq,r,hr,rfl⟩:=h
  cases i with
  |zero=>simp at hx;subst hx;exact⟨a,q.2,rfl,hq⟩
  |succ i=>simp at hx;obtain⟨r',R',k1,k2⟩:=bQ hr hx;exact⟨r',R',by simpa using k1,k2⟩
theorem qX{f:AV→Option (AV × List Nat)}:∀{l:List AV} {p:List AV × List Nat},Iy f l=some p→l.length=p.1.length
 | [],p,h=>by simp[Iy]at h;subst h;rfl
 |a::l,p,h=>by
  simp only[Iy,acQ,acP]at h
  obtain⟨q,hq,r,hr,rfl⟩:=h
  simp[qX hr]
theorem Bj{f:AV→Option (AV × List Nat)}{l xs:List AV}{x:AV}{R:List Nat}(h:Iy f l=some (x::xs,R)):∃a l' R1 R2,l=a::l'∧f a=some (x,R1)∧Iy f l'=some (xs,R2)∧R=R1++R2:=by
 cases l with
 |nil=>simp[Iy]at h
 |cons a l=>
  simp only[Iy,acQ,acP]at h
  obtain⟨q,hq,r,hr,he⟩:=h
  simp only[Prod.mk.injEq,ak8.injEq]at he
  obtain⟨⟨rfl,rfl⟩,rfl⟩:=he
  exact⟨a,l,q.2,r.2,rfl,hq,hr,rfl⟩
theorem iR{f:AV→Option (AV × List Nat)}{l:List AV}{R:List Nat}(h:Iy f l=some ([],R)):l=[]∧R=[]:=by
 cases l with
 |nil=>simp[Iy]at h;exact⟨rfl,h⟩
 |cons a l=>have:=qX h;simp at this
theorem aiS{g:HF}{d:Nat}{v:AV}{xs:List AV}{R:List Nat}(h:rd (d+1) g v=some (.agg xs,R)):∃cs,v=.agg cs∧Iy (rd d g) cs=some (xs,R):=by
 cases v with
 |slr st b r len=>
  simp only[rd,acQ]at h
  obtain⟨z,_,h⟩:=h
  split at h
  ·cases hfl:z.2.1<;>rw[hfl]at h<;>simp at h
  ·cases h
 |agg cs=>
  simp only[rd,acP]at h
  obtain⟨q,hq,he⟩:=h
  simp only[Prod.mk.injEq,AV.agg.injEq]at he
  obtain⟨rfl,rfl⟩:=he
  exact⟨cs,rfl,hq⟩
 |func fn a b=>cases a<;>cases b<;>simp[rd]at h
 |iface t x=>simp[rd]at h
 |_=>simp[rd]at h
theorem Pn{g:HF}{d:Nat}{v:AV}{k:IntKind}{n:Int}{R:List Nat}(h:rd (d+1) g v=some (.int k n,R)):v=.int k n∧R=[]:=by
 cases v with
 |slr st b r len=>
  simp only[rd,acQ]at h
  obtain⟨z,_,h⟩:=h
  split at h
  ·cases hfl:z.2.1<;>rw[hfl]at h<;>simp at h
  ·cases h
 |func fn a b=>cases a<;>cases b<;>simp[rd]at h
 |int k' n'=>simp[rd]at h;exact⟨by simp[h],h.2⟩
 |agg cs=>simp[rd]at h
 |iface t x=>simp[rd]at h
 |_=>simp[rd]at h
theorem Py{g:HF}{d st:Nat}{fl nn:Bool}{v:AV}{rows:List (List AV)}{R:List Nat}(h:rd (d+1) g v=some (Ad st fl nn rows,R)):v.isCell=true∧v.flat=false:=by
 have hs:Ad st fl nn rows=.nils∨∃r,Ad st fl nn rows=.imm st fl r:=by
  cases rows with
  |nil=>cases nn with
   |true=>exact .inr ⟨_,rfl⟩
   |false=>exact .inl rfl
  |cons=>exact .inr ⟨_,rfl⟩
 generalize Ad st fl nn rows=X at h hs
 cases v with
 |func fn a b=>cases a<;>cases b<;>first|exact⟨rfl,rfl⟩|(simp[rd]at h)
 |agg cs=>simp only[rd,acP]at h;obtain⟨_,_,h⟩:=h;simp only[Prod.mk.injEq]at h;obtain⟨h,_⟩:=h;subst h;rcases hs with hs|⟨_,hs⟩<;>cases hs
 |ptr b r o=>exact⟨rfl,rfl⟩
 |yl b=>exact⟨rfl,rfl⟩
 |mapr b=>exact⟨rfl,rfl⟩
 |tup cs=>simp[rd]at h
 |bool b=>simp[rd]at h;obtain⟨h,_⟩:=h;subst h;rcases hs with hs|⟨_,hs⟩<;>cases hs
 |int k n=>simp[rd]at h;obtain⟨h,_⟩:=h;subst h;rcases hs with hs|⟨_,hs⟩<;>cases hs
 |str s=>simp[rd]at h;obtain⟨h,_⟩:=h;subst h;rcases hs with hs|⟨_,hs⟩<;>cases hs
 |_=>exact⟨rfl,rfl⟩
theorem xE{g:HF}{d st:Nat}{fl nn:Bool}{v:AV}{rows:List (List AV)}{R:List Nat}(h:rd (d+1) g v=some (Ad st fl nn rows,R)):
 (v=.nils∧rows=[])∨∃b rows',v=.slr st b 0 rows.length∧(g b).bind Az=some (st,fl,rows')∧rows'.length=rows.length∧(fl=true→rows'=rows)∧(fl=false→∃R',Bh (rd d g) rows'=some (rows,R')):=by
 have hs:(Ad st fl nn rows=.nils∧rows=[])∨Ad st fl nn rows=.imm st fl rows:=by
  cases rows with
  |nil=>cases nn with
   |true=>exact .inr rfl
   |false=>exact .inl ⟨rfl,rfl⟩
  |cons=>exact .inr rfl
 generalize Ad st fl nn rows=X at h hs
 cases v with
 |nils=>simp[rd]at h;obtain⟨rfl,_⟩:=h;rcases hs with⟨_,hs⟩|hs
        ·exact .inl ⟨rfl,hs⟩
        ·cases hs
 |slr st' b r len=>
  simp only[rd,acQ]at h
  obtain⟨z,hz,h⟩:=h
  split at h
  ·rename_i hq
   obtain⟨q1,rfl,q3⟩:=hq
   obtain⟨z1,z2,z3⟩:=z
   simp only at q1 q3 h
   subst q1
   cases z2 with
   |true=>
    simp at h
    obtain⟨rfl,_⟩:=h
    rcases hs with⟨hs,_⟩|hs
    ·cases hs
    ·cases hs
     exact .inr ⟨b,_,by rw[q3],acQ.2 hz,rfl,fun _=>rfl,fun e=>by cases e⟩
   |false=>
    simp only[cond_false,acP]at h
    obtain⟨q,hq,he⟩:=h
    simp only[Prod.mk.injEq]at he
    obtain⟨rfl,_⟩:=he
    rcases hs with⟨hs,_⟩|hs
    ·cases hs
    ·cases hs
     have hl:z3.length=q.1.length:=Uy hq
     exact .inr ⟨b,z3,by rw[q3,hl],acQ.2 hz,hl,fun e=>(by cases e),fun _=>⟨q.2,hq⟩⟩
  ·cases h
 |func fn a b=>cases a<;>cases b<;>simp[rd]at h<;>(obtain⟨rfl,_⟩:=h;rcases hs with⟨hs,_⟩|hs<;>cases hs)
 |agg cs=>simp only[rd,acP]at h;obtain⟨_,_,h⟩:=h;simp only[Prod.mk.injEq]at h;obtain⟨rfl,_⟩:=h;rcases hs with⟨hs,_⟩|hs<;>cases hs
 |iface t x=>simp only[rd,acP]at h;obtain⟨_,_,h⟩:=h;simp only[Prod.mk.injEq]at h;obtain⟨rfl,_⟩:=h;rcases hs with⟨hs,_⟩|hs<;>cases hs
 |ptr b r o=>simp[rd]at h
 |yl b=>simp[rd]at h
 |mapr b=>simp[rd]at h
 |tup cs=>simp[rd]at h
 |imm=>simp[rd]at h
 |iptr=>simp[rd]at h
 |_=>simp[rd]at h;obtain⟨rfl,_⟩:=h;rcases hs with⟨hs,_⟩|hs<;>cases hs
theorem ae2{H:Aa}{b st:Nat}{fl:Bool}{rows:List (List AV)}(h:(hf H b).bind Az=some (st,fl,rows))(i:Nat):Ko (H[b]?) i=rows[i]?:=by
 obtain⟨c,hc,hz⟩:=acQ.1 h
 rw[show H[b]?=some c from hc]
 cases c<;>simp[Az]at hz<;>(obtain⟨_,_,rfl⟩:=hz;rfl)
theorem Il{g:HF}{d:Nat}(k:IntKind)(n:Int):rd (d+1) g (.int k n)=some (.int k n,[]):=rfl
theorem zH{g:HF}{d:Nat}:rd (d+1) g .nils=some (.nils,[]):=rfl
theorem Lh{g:HF}{d st b n:Nat}{rows:List (List AV)}(h:(g b).bind Az=some (st,true,rows))(hn:n=rows.length):rd (d+1) g (.slr st b 0 n)=some (.imm st true rows,[b]):=by
 subst hn;simp[rd,h]
theorem agH{g:HF}{d:Nat}{cs xs:List AV}{R:List Nat}(h:Iy (rd d g) cs=some (xs,R)):rd (d+1) g (.agg cs)=some (.agg xs,R):=by simp[rd,h]
theorem Vs{f:AV→Option (AV × List Nat)}:Iy f []=some ([],[]):=rfl
theorem Bn{f:AV→Option (AV × List Nat)}{a x:AV}{l xs:List AV}{R1 R2:List Nat}(h1:f a=some (x,R1))(h2:Iy f l=some (xs,R2)):Iy f (a::l)=some (x::xs,R1++R2):=by simp[Iy,h1,h2]
theorem yJ{x:Option (List AV)}{vs:List AV}{h:Aa}{Q:Dp→Aa→Prop}(hx:x=some vs)(k:Rt 0 (some vs) h Q):Rt 0 x h Q:=hx▸k
theorem RdV.of{O:Du}{f:Nat}{vs:List AV}{x:AV}{k:Nat}(h:ClQ O f vs [] fun o h'=>∃v R,o=.ret v∧rd 6 (hf h') v=some (x,R)∧R.length≤k∧∀c∈h',vY c):RdV O f vs x k:=by
 obtain⟨o,h',e,v,R,rfl,k1,k2,k3⟩:=h
 exact⟨v,h',R,e,k1,k2,k3⟩
theorem Qy{f:AV→Option (AV × List Nat)}:∀{l:List (List AV)} {p:List (List AV) × List Nat} {r:List AV} {q:List AV × List Nat},Bh f l=some p→Iy f r=some q→Bh f (l++[r])=some (p.1++[q.1],p.2++q.2)
 | [],p,r,q,h,hr=>by simp[Bh]at h;subst h;simp[Bh,hr]
 |a::l,p,r,q,h,hr=>by
  simp only[Bh,acQ,acP]at h
  obtain⟨q1,hq1,r1,hr1,rfl⟩:=h
  simp[Bh,hq1,Qy hr1 hr]
end
noncomputable section
open Go.RowKit
section
variable {P:Program} {O:Du}
def slx(P:Program)(ty:TypeId)(a:Option AV)(l h:Option (Option AV)):OE:=r1 (a.bind fun a=>l.bind fun l=>h.bind fun h=>cA P ty a l h)
theorem xK(t:List AV)(h:Aa)(ty:TypeId)(x:Operand)(lo hi:Option Operand):Dl O P t h (.slice ty x lo hi none)=slx P ty (Ac t x) (Ye t lo) (Ye t hi):=by
 rw[Ce _ _ _ rfl]
 simp only[exec,slx]
 cases Ac t x with
 |none=>rfl
 |some a=>
  cases Ye t lo with
  |none=>rfl
  |some l=>
   cases Ye t hi with
   |none=>rfl
   |some h=>exact Em _
def oS(x:Option AV):Option (Option AV):=x.map some
theorem aeW(v:AV):oS (some v)=some (some v):=acR rfl rfl
theorem uG(t:List AV):Ye t none=some none:=acR rfl rfl
theorem vR(t:List AV)(x:Operand):Ye t (some x)=oS (Ac t x):=acR rfl rfl
theorem akT{ty:TypeId}{n:Nat}(hs:SlT P ty n)(fl:Bool)(rows:List (List AV))(i:Nat)(hi:i≤rows.length):slx P ty (some (.imm n fl rows)) (some none) (some (some (.int .i64 i)))=some (.ret (.imm n fl (rows.take i)),[]):=by
 obtain⟨e,h1,h2⟩:=hs
 simp only[slx,acV,cA,h1,h2,Ht]
 simp[hi,r1]
end
end
noncomputable section
set_option maxRecDepth 100000
def oO(fI:Nat)(md:Nat→Bool):Ft:=⟨fun f=>if f=fI then some eM else none,md⟩
section
variable {P:Program} {G:Nat→Option Obj}
theorem vM{fI:Nat}{md:Nat→Bool}(hI:∀args h out h',eM args h=some (out,h')→
 (∀args w,(callFunc fI args).run P w=.ok (.enter fI args) w)∧
 ∀w S ρ (cargs:Array Value),Vq G w S→HR w S ρ (hf h)→(∀b,h.length≤b→ρ b=.fresh)→(∀b,b<h.length→ρ b≠.fresh)→LR w S ρ args cargs.toList→Calls P fI cargs w (Kr h w S ρ out h')):fO P G (oO fI md):=by
 intro f p hp
 simp only[oO]at hp
 split at hp
 ·rename_i e;subst e;cases hp;exact hI
 ·cases hp
end
section
variable {P:Program}
theorem aiJ{ty:TypeId}{n:Nat}(hs:SlT P ty n)(fl nn:Bool){rows:List (List AV)}{i:Nat}(hi:i<rows.length):slx P ty (some (Ad n fl nn rows)) (some none) (some (some (.int .i64 i)))=some (.ret (.imm n fl (rows.take i)),[]):=by
 cases rows with
 |nil=>simp at hi
 |cons r rs=>rw[acL];exact akT hs fl _ i (by omega)
end
def lsE(e:AV→AV→Bool):List AV→List AV→Bool
 | [],[]=>true
 |a::l,b::r=>e a b&&lsE e l r
 |_,_=>false
def rsE(e:AV→AV→Bool):List (List AV)→List (List AV)→Bool
 | [],[]=>true
 |a::l,b::r=>lsE e a b&&rsE e l r
 |_,_=>false
def avE:Nat→AV→AV→Bool
 |0,_,_=>false
 |d+1,x,y=>
  match x,y with
  | .bool a,.bool b=>a==b
  | .int k a,.int j b=>k==j&&a==b
  | .str a,.str b=>a==b
  | .nils,.nils=>true
  | .imm n f r,.imm n' f' r'=>n==n'&&f==f'&&rsE (avE d) r r'
  | .agg a,.agg b=>lsE (avE d) a b
  |_,_=>false
theorem gZ{e:AV→AV→Bool}(h:∀a b,e a b=true→a=b):∀{l r:List AV},lsE e l r=true→l=r
 | [],[],_=>rfl
 |a::l,b::r,k=>by
  simp only[lsE,agA]at k
  rw[h a b k.1,gZ h k.2]
 | [],_::_,k=>by cases k
 |_::_,[],k=>by cases k
theorem acJ{e:AV→AV→Bool}(h:∀a b,e a b=true→a=b):∀{l r:List (List AV)},rsE e l r=true→l=r
 | [],[],_=>rfl
 |a::l,b::r,k=>by
  simp only[rsE,agA]at k
  rw[gZ h k.1,acJ h k.2]
 | [],_::_,k=>by cases k
 |_::_,[],k=>by cases k
theorem oH:∀{d:Nat} {x y:AV},avE d x y=true→x=y
 |0,_,_,h=>by cases h
 |d+1,x,y,h=>by
  unfold avE at h
  split at h
  ·simp at h;rw[h]
  ·simp at h;rw[h.1,h.2]
  ·simp at h;rw[h]
  ·rfl
  ·simp only[agA,beq_iff_eq]at h
   rw[h.1.1,h.1.2,acJ (fun a b k=>oH k) h.2]
  ·rw[gZ (fun a b k=>oH k) h]
  ·cases h
structure Ent where
 f:Nat
 args:List AV
 res:Dp × Aa
def anI(sJ:List Ent)(f:Nat)(a:List AV)(h:Aa):Option (Dp × Aa):=
 match h with
 | []=>(sJ.find? fun e=>e.f==f&&lsE (avE 8) e.args a).map (·.res)
 |_=>none
def Wb(pr:Ft)(sJ:List Ent):Ft:=⟨fun f=>if sJ.any (·.f==f)=true then some (anI sJ f)else pr f,pr.md⟩
theorem Si{O:Du}{pr:Ft}{sJ:List Ent}(h0:∀f p,pr f=some p→∀a h r,p a h=some r→O.call (.fn f) a h=some r)(h1:∀e∈sJ,O.call (.fn e.f) e.args []=some e.res):
 ∀f p,Wb pr sJ f=some p→∀a h r,p a h=some r→O.call (.fn f) a h=some r:=by
 intro f p hp a h r hr
 simp only[Wb]at hp
 split at hp
 ·cases hp
  unfold anI at hr
  split at hr
  ·obtain⟨e,he,rfl⟩:=acP.1 hr
   have h2:=List.find?_some he
   simp only[agA,beq_iff_eq]at h2
   rw[←h2.1,←gZ (fun a b k=>oH k) h2.2]
   exact h1 e (List.mem_of_find?_eq_some he)
  ·cases hr
 ·exact h0 f p hp a h r hr
def EVu:=PLift.up (aaP @acX (aaP @ahM (aaP @xK (aaP @uG (aaP @vR @aeW)))))
end
noncomputable section
section
variable {α:Type}
end
end
section
def aH:Aa→Aa→Aa
 | [],h'=>h'
 |c₀::h,[]=>c₀::h
 |c₀::h,c::h'=>(bif c₀.quiet c then c₀ else c.mark)::aH h h'
def abH(h h':Aa):Prop:=h.length≤h'.length∧∀(i:Nat) (c₀ c:CB),h[i]?=some c₀→h'[i]?=some c→c₀.quiet c=true∨c₀.isLive=true
theorem iO:∀(h h' pre:Aa),abH h h'→∃es,Do pre.length h h'=some es∧Bv (pre++h) es=pre++aH h h'
 | [],h',pre,_=>⟨_,rfl,by simp[Tv,aH]⟩
 |c₀::h,[],pre,ok=>by simp[abH]at ok
 |c₀::h,c::h',pre,ok=>by
  have ok':abH h h':=⟨by simpa using ok.1,fun i a b h1 h2=>ok.2 (i+1) a b (by simpa using h1) (by simpa using h2)⟩
  cases hq:c₀.quiet c with
  |true=>
   obtain⟨es,e1,e2⟩:=iO h h' (pre++[c₀]) ok'
   refine⟨es,?_,?_⟩
   ·simp only[Do,hq,cond_true]
    simpa using e1
   ·simpa [aH,hq]using e2
  |false=>
   have hl:c₀.isLive=true:=by
    rcases ok.2 0 c₀ c rfl rfl with h|h
    ·rw[hq]at h;cases h
    ·exact h
   obtain⟨es,e1,e2⟩:=iO h h' (pre++[c.mark]) ok'
   refine⟨.put pre.length c.mark::es,?_,?_⟩
   ·simp only[Do,hq,hl,cond_false,cond_true]
    simp only[List.length_append,ajX,List.length_nil]at e1
    rw[e1];rfl
   ·simp only[Bv,Jb,aH,hq,cond_false]
    have:(pre++c₀::h).set pre.length c.mark=(pre++[c.mark])++h:=by simp
    rw[this,e2];simp
theorem pV:∀{h h':Aa},h.length≤h'.length→(aH h h').length=h'.length
 | [],h',_=>rfl
 |c₀::h,[],hl=>by simp at hl
 |c₀::h,c::h',hl=>by simp[aH,pV (h:=h) (h':=h') (by simpa using hl)]
theorem mJ:∀{h h':Aa} {i:Nat} {c₀ c:CB},h[i]?=some c₀→h'[i]?=some c→c₀.quiet c=true→(aH h h')[i]?=some c₀
 | [],h',i,c₀,c,h1,_,_=>by simp at h1
 |a::h,[],i,c₀,c,_,h2,_=>by simp at h2
 |a::h,b::h',0,c₀,c,h1,h2,hq=>by
  simp at h1 h2;subst h1 h2;simp[aH,hq]
 |a::h,b::h',i+1,c₀,c,h1,h2,hq=>by
  simp at h1 h2;simpa [aH]using mJ h1 h2 hq
theorem pW:∀{h h':Aa} {i:Nat} {c₀ c:CB},h[i]?=some c₀→h'[i]?=some c→c₀.quiet c=false→(aH h h')[i]?=some c.mark
 | [],h',i,c₀,c,h1,_,_=>by simp at h1
 |a::h,[],i,c₀,c,_,h2,_=>by simp at h2
 |a::h,b::h',0,c₀,c,h1,h2,hq=>by
  simp at h1 h2;subst h1 h2;simp[aH,hq]
 |a::h,b::h',i+1,c₀,c,h1,h2,hq=>by
  simp at h1 h2;simpa [aH]using pW h1 h2 hq
theorem qE:∀{h h':Aa} {i:Nat},h.length≤h'.length→h.length≤i→(aH h h')[i]?=h'[i]?
 | [],h',i,_,_=>rfl
 |a::h,[],i,hl,_=>by simp at hl
 |a::h,b::h',0,_,hi=>by simp at hi
 |a::h,b::h',i+1,hl,hi=>by
  simpa [aH]using qE (h:=h) (h':=h') (i:=i) (by simpa using hl) (by simpa using hi)
theorem Tc{h:Aa}{i:Nat}{c:CB}(hc:h[i]?=some c):(Zv h)[i]?=some c.clean:=by simp[Zv,hc]
theorem To(h:Aa):(Zv h).length=h.length:=by simp[Zv]
theorem bN(c:CB):Az c.clean=Az c:=by cases c<;>rfl
theorem sH(c:CB):Az c.mark=Az c:=by cases c<;>rfl
theorem afE{O:Du}{H:Aa}{f:Nat}{args:List AV}{Q:Dp→Aa→Prop}(hd:dD args=true)(hm:O.md f=true)(K:ShQ O f args (Zv H) Q)(ok:∀o G,Q o G→abH H G):
 ∃o G es,cl O H (some (.func (.func f) [] [])) (some args)=some (o,es)∧Bv H es=aH H G∧Q o G:=by
 obtain⟨o,G,hc,hq⟩:=K
 obtain⟨es,e1,e2⟩:=iO H G [] (ok o G hq)
 refine⟨o,G,es,?_,by simpa using e2,hq⟩
 rw[qW]
 simp only[ahB,agK,hd,if_true,shC,hm,Bool.or_true,hc]
 rw[abU]
 have e1':Do 0 H G=some es:=e1
 rw[e1'];rfl
structure Ip(X:List Nat)(H H1:Aa):Prop where
 len:H.length≤H1.length
 same:∀b,b<H.length→b∉X→H1[b]?=H[b]?
theorem Ip.refl(H:Aa):Ip [] H H:=⟨Nat.le_refl _,fun _ _ _=>rfl⟩
theorem Ip.app(H l:Aa):Ip [] H (H++l):=⟨by simp,fun b hb _=>agI hb⟩
theorem Ip.trans{X Y:List Nat}{H H1 H2:Aa}(h1:Ip X H H1)(h2:Ip Y H1 H2):Ip (X++Y) H H2:=
 ⟨Nat.le_trans h1.len h2.len,fun b hb hn=>by
   rw[h2.same b (Nat.lt_of_lt_of_le hb h1.len) (fun h=>hn (afV _ h)),h1.same b hb (fun h=>hn (afG _ h))]⟩
theorem Ip.mono{X Y:List Nat}{H H1:Aa}(h:Ip X H H1)(hs:∀b∈X,b∈Y∨H.length≤b):Ip Y H H1:=
 ⟨h.len,fun b hb hn=>h.same b hb (fun hx=>by rcases hs b hx with h|h;exact hn h;omega)⟩
theorem Ip.agr{X R:List Nat}{H H1:Aa}(h:Ip X H H1)(hR:∀b∈R,b<H.length∧b∉X):wL R (hf H) (hf H1):=fun b hb z hz=>by
 show(H1[b]?).bind Az=_
 rw[h.same b (hR b hb).1 (hR b hb).2];exact hz
end
noncomputable section
open Go.RowKit
def Wg(f:Nat→Nat):Oc→List (List Ax × List Ax)→Prop
 | [],[]=>True
 |(es,fs)::l,(w,r)::l'=>(∀e∈es,Ax.all∈w∨Xe f e.foot∈w)∧(∀x∈fs,Ax.all∈r∨Xe f x∈r)∧Wg f l l'
 |_,_=>False
theorem Wg.get{f:Nat→Nat}:∀{l:Oc} {l':List (List Ax × List Ax)} {i:Nat} {y:List Ax × List Ax},Wg f l l'→l'[i]?=some y→∃x,l[i]?=some x∧(∀e∈x.1,Ax.all∈y.1∨Xe f e.foot∈y.1)∧(∀a∈x.2,Ax.all∈y.2∨Xe f a∈y.2)
 | [],[],i,y,_,h=>by simp at h
 |(es,fs)::l,(w,r)::l',0,y,h,hy=>by simp at hy;subst hy;exact⟨_,rfl,h.1,h.2.1⟩
 |(es,fs)::l,(w,r)::l',i+1,y,h,hy=>by
  obtain⟨x,h1,h2⟩:=Wg.get h.2.2 (i:=i) (by simpa using hy)
  exact⟨x,by simpa using h1,h2⟩
theorem rK(x:Ax):x.meets .all=true:=by cases x<;>rfl
theorem tH(x:Ax):Ax.meets .all x=true:=by cases x<;>rfl
theorem acI(f:Nat→Nat){ops:List Oper}{log:Oc}(lg:List (List Ax × List Ax))(hc:Wg f log lg)(hd:fC ops lg=true):Dh ops log=true:=by
 simp only[fC,Dh,ad5]at hd ⊢
 rintro⟨i,j⟩ hij
 have:=hd (i,j) hij
 simp only at this ⊢
 cases hi:lg[i]? with
 |none=>simp[hi]at this
 |some x=>
  cases hj:lg[j]? with
  |none=>simp[hi,hj]at this
  |some y=>
   obtain⟨x',a1,a2,a3⟩:=hc.get hi
   obtain⟨y',b1,b2,b3⟩:=hc.get hj
   simp only[hi,hj,a1,b1,alC,alD]at this ⊢
   cases hk:Ja x' y' with
   |false=>rfl
   |true=>
    rw[←this];symm
    have mt:∀{p q:Ax} {P Q:List Ax},p.meets q=true→(Ax.all∈P∨Xe f p∈P)→(Ax.all∈Q∨Xe f q∈Q)→∃p'∈P,∃q'∈Q,p'.meets q'=true:=fun {p q P Q} hm hp hq=>by
     rcases hp with hp|hp<;>rcases hq with hq|hq
     ·exact⟨_,hp,_,hq,rfl⟩
     ·exact⟨_,hp,_,hq,tH _⟩
     ·exact⟨_,hp,_,hq,rK _⟩
     ·exact⟨_,hp,_,hq,bT f _ _ hm⟩
    simp only[Ja,hY,alA,alB,ac6,ahD]at hk ⊢
    rcases hk with⟨_,⟨e,he,rfl⟩,b,hb,hm⟩|⟨_,⟨e,he,rfl⟩,b,hb,hm⟩
    ·left
     rcases hb with⟨e',he',rfl⟩|hb
     ·obtain⟨p,hp,q,hq,hpq⟩:=mt hm (a2 e he) (b2 e' he')
      exact⟨p,hp,q,.inl hq,hpq⟩
     ·obtain⟨p,hp,q,hq,hpq⟩:=mt hm (a2 e he) (b3 b hb)
      exact⟨p,hp,q,.inr hq,hpq⟩
    ·right
     obtain⟨p,hp,q,hq,hpq⟩:=mt hm (b2 e he) (a3 b hb)
     exact⟨p,hp,q,hq,hpq⟩
theorem Yj(f:Nat→Nat)(lg:List (List Ax × List Ax)){C:R→Prop}{ops:List Oper}{log:Oc}{k:R}(hb:fC ops lg=true)(hc:Wg f log lg)(h:True→C k):C (Eo (Dh ops log) k):=wO (acI f lg hc hb) h
theorem xY(f:Nat→Nat):Wg f [] []=True:=rfl
theorem vS(f:Nat→Nat)(es:List Ab)(fs:List Ax)(l:Oc)(w r:List Ax)(l':List (List Ax × List Ax)):Wg f ((es,fs)::l) ((w,r)::l')=((∀e∈es,Ax.all∈w∨Xe f e.foot∈w)∧(∀x∈fs,Ax.all∈r∨Xe f x∈r)∧Wg f l l'):=rfl
theorem aX{f:Nat→Nat}:∀{cs:List CB} {base:Nat} {ns:List Ab},Ff f base cs=some ns→∀e∈ns,∃b,e.foot=.blk b∧base≤b
 | [],base,ns,h,e,he=>by simp[Ff]at h;subst h;simp at he
 |c::cs,base,ns,h,e,he=>by
  simp only[Ff,acQ,acP]at h
  obtain⟨c1,_,ns',h2,rfl⟩:=h
  rcases af2.1 he with rfl|he
  ·exact⟨base,rfl,Nat.le_refl _⟩
  ·obtain⟨b,h3,h4⟩:=aX h2 e he
   exact⟨b,h3,by omega⟩
theorem xQ{O:Du}{H:Aa}{f:Nat}{args vs:List AV}{v:AV}{h':Aa}(hh:pkd O f args)(ha:Ah (Vi H) args=some vs)(hp:vs.all (Ar 8)=true)
 (hc:O.call (.fn f) vs []=some (.ret v,h')) (h1:∀f,∃y,Bf 8 f v=some y) (h2:∀c∈h',vY c) (hl:args.flatMap (Ao 12 (hf H))=[]):
 ∃v1 es cs1,cl O H (some (.func (.func f) [] [])) (some args)=some (.ret v1,es)∧Bv H es=H++cs1∧Ah (Dk fun i=>H.length+i) h'=some cs1∧Bf 8 (fun i=>H.length+i) v=some v1∧∀e∈es,∃b,e.foot=.blk b∧H.length≤b:=by
 obtain⟨v1,e1⟩:=h1 (fun i=>H.length+i)
 obtain⟨ns,cs1,e2,e3,e4⟩:=kG (f:=fun i=>H.length+i) h2 H.length
 have key:cl O H (some (.func (.func f) [] [])) (some args)=some (.ret v1,ns):=by
  rw[oJ hh,qH ha hp,hc]
  simp only[crR,acV,Dp.v,e1,e2,agG,Dp.map,hl]
  split<;>rfl
 exact⟨v1,ns,cs1,key,e3 H,e4,e1,aX e2⟩
theorem wY(n:Nat)(b:Nat):(fun i=>if n≤i then some (i-n)else none:Nat→Option Nat) (n+b)=some b:=by simp
theorem pR{H:Aa}{h' cs1:Aa}(h:Ah (Dk fun i=>H.length+i) h'=some cs1):uB (fun i=>if H.length≤i then some (i-H.length)else none) (hf (H++cs1)) (hf h'):=fun i b hi z hz=>by
 simp only at hi
 split at hi
 ·rename_i hle
  simp only[ahZ.injEq]at hi
  obtain⟨c,hcc,hcz⟩:=acQ.1 hz
  obtain⟨c1,g1,g2⟩:=Jn h (show h'[b]?=some c from hcc)
  obtain⟨rows',r1,r2,r3⟩:=yP (F:=fun i=>if H.length≤i then some (i-H.length)else none) (wY H.length) g2 hcz
  refine⟨rows',?_,r2,r3⟩
  show((H++cs1)[i]?).bind Az=_
  rw[agP (by omega),hi,g1]
  exact r1
 ·cases hi
theorem uC(g:HF){vs:List AV}(hp:vs.all (Ar 8)=true):Gn g [] vs=some (vs,[],[]):=by
 simp only[ad5]at hp
 rw[Gn,Hh fun x hx=>Gl [] (hp x hx)];rfl
theorem gJ{O:Du}{H:Aa}{f:Nat}{args vs:List AV}(hh:pkd O f args)(ha:Ah (Vi H) args=some vs)(hp:vs.all (Ar 8)=true):
 ∃fs,tU O H (some (.func (.func f) [] [])) (some args)=some fs∧∀x∈fs,∃b∈args.flatMap (Ao 12 (hf H)),x=.blk b:=by
 have key:ftR H args=some ((args.flatMap (Ao 12 (hf H))).map Ax.blk):=by rw[zD,ha,lQ,uC _ hp,mO,agK]
 have e:tU O H (some (.func (.func f) [] [])) (some args)=some []∨tU O H (some (.func (.func f) [] [])) (some args)=some ((args.flatMap (Ao 12 (hf H))).map Ax.blk):=by
  rw[gC]
  simp only[ahB,agK]
  split
  ·rename_i hd
   right
   rw[af1,if_neg (by rw[hh hd];simp)];exact key
  ·split
   ·exact .inl rfl
   ·exact .inr key
 rcases e with e|e
 ·exact⟨_,e,fun x hx=>by cases hx⟩
 ·exact⟨_,e,fun x hx=>by obtain⟨b,hb,rfl⟩:=ahD.1 hx;exact⟨b,hb,rfl⟩⟩
theorem ab5{m m':List Nat}{c c':CB}(h:Oy m c=some (c',m'))(hl:∃st fl w rows,c=.live st fl w rows):∃st fl w rows,c'=.live st fl w rows:=by
 obtain⟨st,fl,w,rows,rfl⟩:=hl
 cases fl with
 |true=>simp[Oy]at h;obtain⟨rfl,_⟩:=h;exact⟨_,_,_,_,rfl⟩
 |false=>simp only[Oy,acP]at h;obtain⟨⟨r,m1⟩,_,h⟩:=h;cases h;exact⟨_,_,_,_,rfl⟩
theorem kU{f:Nat→Nat}{c c':CB}(h:Dk f c=some c')(hl:∃st fl w rows,c=.live st fl w rows):∃st fl w rows,c'=.live st fl w rows:=by
 obtain⟨st,fl,w,rows,rfl⟩:=hl
 cases fl with
 |true=>simp[Dk]at h;subst h;exact⟨_,_,_,_,rfl⟩
 |false=>simp only[Dk,acP]at h;obtain⟨r,_,rfl⟩:=h;exact⟨_,_,_,_,rfl⟩
theorem mC{g:HF}{S:List Nat}(H:Cl g S):∀(n i:Nat) (m:List Nat) {cs:List CB} {m':List Nat},(∀b∈m,b∈S)→Fo n g i m=some (cs,m')→
 m <+:m'∧∀j c',cs[j]?=some c'→∃b c,m'[i+j]?=some b∧g b=some c∧((∃st fl w rows,c=.live st fl w rows)→∃st fl w rows,c'=.live st fl w rows)
 |0,i,m,cs,m',hs,h=>by simp[Fo]at h
 |n+1,i,m,cs,m',hs,h=>by
  unfold Fo at h
  cases hm:m[i]? with
  |none=>rw[hm]at h;simp at h;obtain⟨rfl,rfl⟩:=h;exact⟨akD _,fun j c' hj=>by simp at hj⟩
  |some b=>
   rw[hm]at h
   obtain⟨c,c',m1,z,k1,k2,k3,g1,k4,k5⟩:=spB H (hs b (ahO hm)) m
   simp only[k1,k3,acV,acP]at h
   obtain⟨⟨cs1,m2⟩,h2,h3⟩:=h
   cases h3
   obtain⟨p1,p2⟩:=mC H n (i+1) m1 (fun b hb=>(g1.sub b hb).elim (hs b) id) h2
   refine⟨g1.pre.trans p1,fun j x hj=>?_⟩
   cases j with
   |zero=>
    simp at hj;subst hj
    exact⟨b,c,Gu (g1.pre.trans p1) (by simpa using hm),k1,fun hl=>ab5 k3 hl⟩
   |succ j=>
    simp at hj
    obtain⟨b',c1,a1,a2⟩:=p2 j x hj
    exact⟨b',c1,by rw[←a1];congr 1;omega,a2⟩
def pT(c:CB):Prop:=∃z,Az c=some z
theorem pT.quiet{c:CB}(h:pT c):c.quiet c.clean=true:=by
 obtain⟨z,h⟩:=h
 cases c<;>first|rfl|(simp[Az]at h)
theorem pT.ren{f:Nat→Nat}{c c':CB}(h:pT c)(hr:Dk f c=some c'):pT c':=by
 obtain⟨z,h⟩:=h
 cases c with
 |live st fl w rows=>obtain⟨st,fl,w,rows,rfl⟩:=kU hr ⟨_,_,_,_,rfl⟩;exact⟨_,rfl⟩
 |frz st fl rows=>
  cases fl with
  |true=>simp[Dk]at hr;subst hr;exact⟨_,rfl⟩
  |false=>simp only[Dk,acP]at hr;obtain⟨r,_,rfl⟩:=hr;exact⟨_,rfl⟩
 |_=>simp[Az]at h
theorem pT.renL{f:Nat→Nat}{cs cs1:Aa}(h:∀c∈cs,pT c)(hr:Ah (Dk f) cs=some cs1):∀c∈cs1,pT c:=fun c hc=>by
 obtain⟨i,hi⟩:=ak9 hc
 obtain⟨h1,h2⟩:=Dc hr
 obtain⟨a,ha,hf⟩:=h2 i c hi
 exact(h a (ahO ha)).ren hf
theorem adQ{h:Aa}{v:AV}{R:List Nat}(hs:Sp 8 v R)(hc:Cl (hf h) R)(hR:R.length<5000):
 ∃v' cs F,Iw 0 v h=some (v',cs)∧uB F (hf cs) (hf h)∧Dv 8 F v'=some v∧(∀c∈cs,vY c)∧(∀c∈cs,pT c)∧∀i b,F i=some b→(∃st fl w rows,h[b]?=some (.live st fl w rows))→∃st fl w rows,cs[i]?=some (.live st fl w rows):=by
 obtain⟨v',m,e1,g1,k1⟩:=hs []
 have hm:∀b∈m,b∈R:=fun b hb=>(g1.sub b hb).elim (fun h=>by cases h) id
 obtain⟨cs,m',e2,p1,p2,p3,p4,p5,p6⟩:=spC hc 5000 0 m (g1.nd alF) hm (by omega) (Nat.zero_le _)
 obtain⟨_,q2⟩:=mC hc 5000 0 m hm e2
 refine⟨v',cs,fun i=>m'[i]?,by simp[Iw,Gn,Bw.refL,e1,e2,ai7],fun i b hi z hz=>?_,k1 _ (fun _ _ h=>Gu p1 h),p5,fun c hc=>?_,fun i b hi hb=>?_⟩
 ·have hlt:=(acU.1 hi).1
  obtain⟨b',z',a1,a2,rows',a3,a4,a5⟩:=p6 (fun i=>m'[i]?) (fun _ _ h=>h) i _ (aeG (by omega))
  rw[ak7]at a1
  have hbb:b=b':=by have hi':m'[i]?=some b:=hi;rw[hi']at a1;cases a1;rfl
  subst hbb
  rw[hz]at a2;cases a2
  exact⟨rows',by show(cs[i]?).bind Az=_;rw[aeG (by omega)];exact a3,a4,a5⟩
 ·obtain⟨j,hj⟩:=ak9 hc
  obtain⟨b',z',a1,a2,rows',a3,a4,a5⟩:=p6 (fun i=>m'[i]?) (fun _ _ h=>h) j _ hj
  exact⟨_,a3⟩
 ·have hlt:=(acU.1 hi).1
  obtain⟨b',c,a1,a2,a3⟩:=q2 i _ (aeG (show i<cs.length by omega))
  rw[ak7]at a1
  have hbb:b=b':=by have hi':m'[i]?=some b:=hi;rw[hi']at a1;cases a1;rfl
  subst hbb
  obtain⟨s1,f1,w1,r1,hc2⟩:=hb
  obtain⟨st,fl,w,rows,e⟩:=a3 ⟨s1,f1,w1,r1,by have h3:h[b]?=some c:=a2;rw[hc2]at h3;cases h3;rfl⟩
  exact⟨st,fl,w,rows,by rw[aeG (by omega),e]⟩
theorem xJ{g:HF}{d e:Nat}(h:d≤e){l:List AV}{p:List AV × List Nat}(hr:Iy (rd d g) l=some p):Iy (rd e g) l=some p:=Oz hr fun _ _ _ hq _=>gP h hq
theorem pY{f:AV→Option (AV × List Nat)}:∀{a b x y:List AV} {R1 R2:List Nat},Iy f a=some (x,R1)→Iy f b=some (y,R2)→Iy f (a++b)=some (x++y,R1++R2)
 | [],b,x,y,R1,R2,h1,h2=>by simp[Iy]at h1;obtain⟨rfl,rfl⟩:=h1;exact h2
 |c::a,b,x,y,R1,R2,h1,h2=>by
  simp only[Iy,acQ,acP]at h1
  obtain⟨q,hq,⟨r1,r2⟩,hr,he⟩:=h1
  cases he
  have:=pY hr h2
  simp[Iy,hq,this]
def wo(g:HF)(p:Nat):HF:=fun b=>if b=p then none else g b
theorem ajH{g:HF}{p:Nat}(R:List Nat):wL R (wo g p) g:=fun b _ z hz=>by
 unfold wo at hz
 split at hz
 ·cases hz
 ·exact hz
theorem ai5{g:HF}{p:Nat}{l:List AV}{q:List AV × List Nat}{d:Nat}(hd:d≤9)(h:Iy (rd d (wo g p)) l=some q):p∉q.2:=fun hp=>by
 obtain⟨z,hz,_⟩:=clL h (fun x _ q hx=>bM hd hx) p hp
 simp[wo]at hz
def PB(g:HF)(p st:Nat)(X:List AV)(k:Nat):Prop:=∃w row R,g p=some (.live st false w [row])∧Iy (rd 6 (wo g p)) row=some (X,R)∧R.length≤k
theorem PB.of{g:HF}{p st k:Nat}{X:List AV}{w:Bool}{row:List AV}{R:List Nat}(h:g p=some (.live st false w [row]))(hr:Iy (rd 6 g) row=some (X,R))(hp:p∉R)(hk:R.length≤k):PB g p st X k:=
 ⟨w,row,R,h,Kv hr (fun b hb z hz=>by unfold wo;rw[if_neg (fun e=>hp (by rw[←e];exact hb))];exact hz),hk⟩
theorem PB.get{g:HF}{p st k:Nat}{X:List AV}(h:PB g p st X k):∃w row R,g p=some (.live st false w [row])∧Iy (rd 6 g) row=some (X,R)∧p∉R∧R.length≤k:=by
 obtain⟨w,row,R,h1,h2,h3⟩:=h
 exact⟨w,row,R,h1,Kv h2 (ajH R),ai5 (by omega) h2,h3⟩
theorem PB.ren{F:Nat→Option Nat}{g' g:HF}(H:uB F g' g){i p st k:Nat}{X:List AV}(hi:F i=some p)(hl:∃st fl w rows,g' i=some (.live st fl w rows))(h:PB g p st X k):PB g' i st X k:=by
 obtain⟨w,row,R,h1,h2,h3⟩:=h
 obtain⟨st',fl,w',rows,hl⟩:=hl
 obtain⟨rows',k1,_,k3⟩:=H i p hi (st,false,[row]) (by rw[h1];rfl)
 rw[hl]at k1
 simp only[acV,Az,ahZ.injEq,Prod.mk.injEq]at k1
 obtain⟨rfl,rfl,rfl⟩:=k1
 have k3:=k3 rfl
 obtain⟨row',rfl⟩:∃r,rows=[r]:=by
  have:=Ia k3
  match rows,this with
  | [r],_=>exact⟨r,rfl⟩
 simp only[Ah,acQ,agG,ahZ.injEq,ak8.injEq,and_true,exists_eq_right]at k3
 have H0:uB F (wo g' i) (wo g p):=fun j b hj z hz=>by
  have hbp:b≠p:=fun e=>by subst e;simp[wo]at hz
  have hji:j≠i:=fun e=>by subst e;rw[hi]at hj;cases hj;exact hbp rfl
  simp only[wo,if_neg hbp,if_neg hji]at hz ⊢
  exact H j b hj z hz
 obtain⟨R',a1,a2,_⟩:=aF (f':=rd 6 (wo g' i)) (Z:=fun i=>∃b,F i=some b) k3 h2 (fun x' x q a b=>gU H0 a b)
 exact⟨w',row',R',hl,a1,by rw[a2];exact h3⟩
theorem agS{h:Aa}{p st k:Nat}{X:List AV}{n:Int}{ki:IntKind}{Q:Dp→Aa→Prop}(hp:PB (hf h) p st X k)(hk:k<4000)
 (q:∀i h',PB (hf h') i st X k→(∀c∈h',vY c)→(∀c∈h',pT c)→Q (.ret (.tup [.ptr i 0 0,.int ki n])) h'):Rt 0 (some [.ptr p 0 0,.int ki n]) h Q:=by
 obtain⟨w,row,R,h1,h2,h3⟩:=hp.get
 obtain⟨h3,h4⟩:=h3
 have hs:Sp 8 (.tup [.ptr p 0 0,.int ki n]) (p::R):=fun m=>
  ⟨.tup [.ptr (place m p).1 0 0,.int ki n],(place m p).2,by simp[Bw,Bw.refL],mN m p (acT ..),fun F hF=>by simp[Dv,Ah,hF _ _ (Gs m p).1]⟩
 have hc:Cl (hf h) (p::R):=fun b hb=>by
  rcases af2.1 hb with rfl|hb
  ·exact⟨_,by rw[h1];rfl,fun _=>⟨6,([X],R++[]),by omega,by simp[Bh,h2],fun x hx=>acS _ (by simpa using hx)⟩⟩
  ·obtain⟨z,k1,k2⟩:=clL h2 (fun x _ q hx=>bM (by omega) hx) b hb
   exact⟨z,k1,fun e=>by obtain⟨d,q,a1,a2,a3⟩:=k2 e;exact⟨d,q,a1,a2,fun x hx=>acS _ (a3 x hx)⟩⟩
 obtain⟨v',cs,F,e1,e2,e3,e4,e6,e5⟩:=adQ hs hc (by simp;omega)
 obtain⟨o1,rfl,ho⟩:=zB e3
 have key:∃i,o1=[.ptr i 0 0,.int ki n]∧F i=some p:=by
  have hl:=Ia ho
  match o1,hl with
  | [a,b],_=>
    simp only[Ah,acQ,acP]at ho
    obtain⟨a',ha,r,⟨b',hb,r',hr,rfl⟩,he⟩:=ho
    simp only[ak8.injEq]at he
    obtain⟨rfl,rfl,_⟩:=he
    have hb1:b=.int ki n:=by
     cases b with
     |func fn a b=>simp only[Dv,acQ,acP]at hb;obtain⟨_,_,_,_,hb⟩:=hb;cases hb
     |_=>simp[Dv]at hb<;>first|(obtain⟨rfl,rfl⟩:=hb;rfl)|skip
    have ha1:∃i,a=.ptr i 0 0∧F i=some p:=by
     cases a with
     |func fn a b=>simp only[Dv,acQ,acP]at ha;obtain⟨_,_,_,_,ha⟩:=ha;cases ha
     |ptr b r o=>simp only[Dv,acP]at ha;obtain⟨b',hb,he⟩:=ha;cases he;exact⟨b,rfl,hb⟩
     |_=>simp[Dv]at ha
    obtain⟨i,rfl,hi⟩:=ha1
    exact⟨i,by rw[hb1],hi⟩
 obtain⟨i,rfl,hi⟩:=key
 refine⟨_,_,by simp[wF,Jy,e1],q i cs (PB.ren e2 hi (e5 i p hi ⟨_,_,_,_,h1⟩) hp) e4 e6⟩
theorem ak5{O:Du}{f:Nat}{args:List AV}{h':Aa}{i st k:Nat}{X:List AV}{n:Int}{ki:IntKind}(H:Aa)(hh:pkd O f args)(hp:args.all (Ar 8)=true)
 (hc:O.call (.fn f) args []=some (.ret (.tup [.ptr i 0 0,.int ki n]),h')) (h2:∀c∈h',vY c) (h3:∀c∈h',pT c) (hP:PB (hf h') i st X k):
 ∃j es l,cl O H (some (.func (.func f) [] [])) (some args)=some (.ret (.tup [.ptr j 0 0,.int ki n]),es)∧Bv H es=H++l∧H.length≤j∧(∀c∈l,pT c)∧PB (hf (H++l)) j st X k:=by
 have hp':=hp
 simp only[ad5]at hp'
 have hl:args.flatMap (Ao 12 (hf H))=[]:=by
  simp only[List.flatMap_eq_nil_iff]
  exact fun x hx=>Jd _ (by omega) (hp' x hx)
 obtain⟨v1,es,cs1,e1,e2,e3,e4,_⟩:=xQ hh (Ic fun x hx=>Gk (hf H) (show 8≤12 by omega) (hp' x hx)) hp hc (fun f=>⟨.tup [.ptr (f i) 0 0,.int ki n],by simp[Bf,Ah]⟩) h2 hl
 have hv:v1=.tup [.ptr (H.length+i) 0 0,.int ki n]:=by simp[Bf,Ah]at e4;exact e4.symm
 subst hv
 obtain⟨w,row,R,k1,_⟩:=id hP
 obtain⟨c1,g1,g2⟩:=Jn e3 (show h'[i]?=some _ from k1)
 refine⟨_,es,cs1,e1,e2,Nat.le_add_right ..,pT.renL h3 e3,PB.ren (pR e3) (wY H.length i) ?_ hP⟩
 obtain⟨st,fl,w,rows,e⟩:=kU g2 ⟨_,_,_,_,rfl⟩
 exact⟨st,fl,w,rows,by show(H++cs1)[H.length+i]?=_;rw[agP (by omega)];simp[g1,e]⟩
theorem hU{O:Du}{H:Aa}{f:Nat}{args:List AV}{o:Dp}{l:Aa}(hd:dD args=true)(hm:O.md f=true)(hc:O.call (.sh f) args (Zv H)=some (o,Zv H++l))(hq:Bq H=true):
 cl O H (some (.func (.func f) [] [])) (some args)=some (o,Gp H.length l):=by
 rw[qW]
 simp only[ahB,agK,hd,if_true,shC,hm,Bool.or_true,hc]
 rw[abU,pS hq]
 simp
theorem qV{O:Du}{H:Aa}{f:Nat}{args:List AV}{o:Dp}(hd:dD args=true)(hm:O.md f=true)(hc:O.call (.sh f) args (Zv H)=some (o,Zv H))(hq:Bq H=true):
 cl O H (some (.func (.func f) [] [])) (some args)=some (o,[]):=by
 have:=hU (l:=[]) hd hm (by simpa using hc) hq
 simpa [Gp]using this
theorem Qp{H:Aa}(h:∀c∈H,c.quiet c.clean=true):Bq H=true:=by simp only[Bq,ad5];exact h
theorem Jg{H:Aa}(h:Bq H=true){b:Nat}{c:CB}(hb:H[b]?=some c):c.quiet c.clean=true:=by
 simp only[Bq,ad5]at h
 exact h c (ahO hb)
theorem Gh{H l:Aa}(h:Bq H=true)(hl:Bq l=true):Bq (H++l)=true:=by
 simp only[Bq,ad5,ac6]at h hl ⊢
 exact fun c hc=>hc.elim (h c) (hl c)
theorem kL{c:CB}(h:c.quiet c.clean=true):c.clean.quiet c.clean.clean=true:=by cases c<;>first|rfl|exact h
theorem Sv{H:Aa}(h:Bq H=true):Bq (Zv H)=true:=by
 simp only[Bq,Zv,ad5,ahD]at h ⊢
 rintro c ⟨c0,h0,rfl⟩
 exact kL (h c0 h0)
theorem oN{c:CB}(h:c.quiet c.clean=true):c.mark.quiet c.mark.clean=true:=by cases c<;>first|rfl|exact h
theorem Xa{H0 G:Aa}{X:List Nat}(hq:Bq H0=true)(K:Ip X (Zv H0) G)(hX:∀b∈X,b<H0.length∧∀c0 c,H0[b]?=some c0→G[b]?=some c→c0.isLive=true∧c0.quiet c=false):
 abH H0 G∧(aH H0 G).length=G.length∧(∀b,H0.length≤b→(aH H0 G)[b]?=G[b]?)∧(∀b,b<H0.length→b∉X→(aH H0 G)[b]?=H0[b]?)∧(∀b∈X,∀c,G[b]?=some c→(aH H0 G)[b]?=some c.mark):=by
 have hlen:H0.length≤G.length:=by have:=K.len;rwa[To]at this
 have old:∀b c0,H0[b]?=some c0→b∉X→G[b]?=some c0.clean:=fun b c0 h0 hb=>by
  rw[K.same b (by rw[To];exact(acU.1 h0).1) hb,Tc h0]
 refine⟨⟨hlen,fun b c0 c h0 h1=>?_⟩,pV hlen,fun b hb=>qE hlen hb,fun b hb hn=>?_,fun b hb c hc=>?_⟩
 ·by_cases hb:b∈X
  ·exact .inr ((hX b hb).2 c0 c h0 h1).1
  ·rw[old b c0 h0 hb]at h1;cases h1
   exact .inl (Jg hq h0)
 ·obtain⟨c0,h0⟩:∃c,H0[b]?=some c:=⟨_,aeG hb⟩
  rw[h0];exact mJ h0 (old b c0 h0 hn) (Jg hq h0)
 ·obtain⟨h1,h2⟩:=hX b hb
  obtain⟨c0,h0⟩:∃c,H0[b]?=some c:=⟨_,aeG h1⟩
  exact pW h0 hc (h2 c0 c h0 hc).2
theorem rT{H0 G:Aa}{X:List Nat}(hq:Bq H0=true)(K:Ip X (Zv H0) G)(hX:∀b∈X,b<H0.length∧∀c0 c,H0[b]?=some c0→G[b]?=some c→c0.isLive=true∧c0.quiet c=false)(hg:Bq G=true):Bq (aH H0 G)=true:=by
 obtain⟨_,k1,k2,k3,k4⟩:=Xa hq K hX
 refine Qp fun c hc=>?_
 obtain⟨b,hb⟩:=ak9 hc
 by_cases h1:b<H0.length
 ·by_cases h2:b∈X
  ·obtain⟨c1,h3⟩:∃c,G[b]?=some c:=⟨_,aeG (by rw[←k1];exact(acU.1 hb).1)⟩
   rw[k4 b h2 c1 h3]at hb;cases hb
   exact oN (Jg hg h3)
  ·rw[k3 b h1 h2]at hb;exact Jg hq hb
 ·rw[k2 b (by omega)]at hb;exact Jg hg hb
theorem uW{H0 G:Aa}{X:List Nat}(hq:Bq H0=true)(K:Ip X (Zv H0) G)(hX:∀b∈X,b<H0.length∧∀c0 c,H0[b]?=some c0→G[b]?=some c→c0.isLive=true∧c0.quiet c=false)(b:Nat):(hf (aH H0 G) b).bind Az=(hf G b).bind Az:=by
 obtain⟨_,k1,k2,k3,k4⟩:=Xa hq K hX
 show((aH H0 G)[b]?).bind Az=(G[b]?).bind Az
 by_cases h1:b<H0.length
 ·by_cases h2:b∈X
  ·cases h3:G[b]? with
   |none=>rw[alE]at h3;have h4:=K.len;rw[To]at h4;omega
   |some c1=>rw[k4 b h2 c1 h3];exact sH c1
  ·rw[k3 b h1 h2,K.same b (by rw[To];exact h1) h2]
   cases h3:H0[b]? with
   |none=>simp[Zv,h3]
   |some c=>rw[Tc h3];exact(bN c).symm
 ·rw[k2 b (by omega)]
end
end Go.Ev
