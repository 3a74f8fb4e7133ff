/- The functions of the layer, walked. -/
import Derived.Test.YtcncggaobhbomaaGreatDoorPartAB
import Derived.Test.YtcncggaobhbomaaGreatDoorLibE
open List renaming length_map→agX,take→aqM,take_of_length_le→aqT,mem_of_getElem?→aAR,getElem?_eq_getElem→aC4,getElem?_append_right→aC5,take_append_of_le_length→aC8,mem_range→aE6,length_cons→aHS,mem_cons→aH6,idxOf→aIF,flatMap_def→aIS,getElem?_append_left→aJY,length_nil→aJ1,getElem?_cons_succ→aJ9,mem_cons_of_mem→aKY,range→aLK,all_eq_true→aM0,mem_append→aNT,getElem?_of_mem→aNU,drop→aNZ,map_cons→aN0,map_nil→aOE,append_assoc→aP8,map_append→aQ4,getElem?_map→aRS,all_append→aSL,getElem?_cons_zero→aS7,getElem?_eq_none→aT1,drop_zero→aT2,idxOf_cons→aT3,map_congr_left→aWL,mem_flatMap→aWS,not_mem_nil→aXT,length_append→aXY,length_replicate→aY2,append_nil→aY4,drop_eq_nil_of_le→aY5,take_append_drop→aY9,getElem?_eq_some_iff→aZA
open Option renaming bind_some→ao8,map_some→awX,getD_some→aFD,some→aM7,toList_none→aY3,bind_eq_some_iff→aY7,map_eq_some_iff→aY8
open Nat renaming le_refl→aC6,zero_le→aNV,add_sub_cancel_left→aRR
open Bool renaming false_eq_true→aC7,and_eq_true→aR1
open Int renaming lt_irrefl→aEY,natCast_zero→aY6
set_option linter.unusedSimpArgs false
set_option linter.unusedVariables false
namespace Go.Proofs.YtcncggaobhbomaaGreatDoor
open Go.Ev Go Go.Ev.Net
set_option maxRecDepth 100000
set_option maxHeartbeats 16000000
theorem Hh{s:St}(h:s.1.length=12):(Bm s).length=25:=by simp[Bm,Bd,h]
theorem Ff(s:St):(Bm s).all AV.flat=true:=by
 unfold Bm;rw[aSL,Gh];rfl
theorem Gf(s:St):(Bm s).all AV.isCell=true:=by
 unfold Bm;rw[aSL,Gi];rfl
theorem aGX{L:List (Int × Bool)}{i:Nat}{x:Int × Bool}(h:L[i]?=some x):Jp.partOf Tryz.prog 80 (Cf L) (i*2)=some (.agg [.int .i64 x.1,.bool x.2]):=by
 have h1:Oq Tryz.prog 80=some true:=by kernel_rfl
 have h2:Ji Tryz.prog 80=some 2:=by kernel_rfl
 obtain⟨a,b⟩:=x
 simp only[Jp.partOf,h1,h2,ao8,if_true,awX,aDA L i a b h]
theorem aSP(d:Nat)(x y:Int × Bool):Jp Tryz.prog (d+2) 80 (.agg [.int .i64 x.1,.bool x.2]) (.agg [.int .i64 y.1,.bool y.2])=some (decide (x=y)):=by
 have h0:Tryz.prog.stoodInHeld 80=false:=by kernel_rfl
 have h1:Oq Tryz.prog 78=some false:=by kernel_rfl
 have h2:Oq Tryz.prog 4=some false:=by kernel_rfl
 unfold Jp
 simp only[Tryz.underlying80,h0,aC7,if_false,Jp.eqL,Jp.partOf,h1,h2,ao8,aS7,aJ9]
 unfold Jp
 simp only[Tryz.underlying78,Tryz.underlying4,if_true,ao8]
 obtain⟨a,b⟩:=x
 obtain⟨c,e⟩:=y
 by_cases q1:a=c<;>by_cases q2:b=e<;>simp[q1,q2]
theorem aQM(d:Nat){a b:List (Int × Bool)}(ha:a.length=12)(hb:b.length=12):∀l:List Nat,(∀i∈l,i<12)→Jp.eqA Tryz.prog (Jp Tryz.prog (d+2) 80) 80 2 (Cf a) (Cf b) l=some (decide (∀i∈l,a[i]?=b[i]?))
 | [],_=>by simp[Jp.eqA]
 |i::l,h=>by
  have hi:=h i (by simp)
  have e1:a[i]?=some a[i]:=aC4 (by omega)
  have e2:b[i]?=some b[i]:=aC4 (by omega)
  have ih:=aQM d ha hb l fun j hj=>h j (aKY _ hj)
  simp only[Jp.eqA,aGX e1,aGX e2,ao8,aSP,ih]
  by_cases q:a[i]=b[i]
  ·simp[q,e1,e2]
  ·simp[q,e1,e2]
theorem a5A{a b:St}(ha:a.1.length=12)(hb:b.1.length=12):Jp Tryz.prog 12 85 (.agg (Bm a)) (.agg (Bm b))=some (decide (a=b)):=by
 have h0:Tryz.prog.stoodInHeld 85=false:=by kernel_rfl
 have h1:Oq Tryz.prog 82=some true:=by kernel_rfl
 have h2:Oq Tryz.prog 3=some false:=by kernel_rfl
 have h3:Ji Tryz.prog 82=some 24:=by kernel_rfl
 have h4:Ji Tryz.prog 80=some 2:=by kernel_rfl
 have tk:∀s:St,s.1.length=12→aqM 24 (Bm s)=Cf s.1:=fun s h=>by
  unfold Bm;rw[aC8 (by rw[Bd];omega),aqT (by rw[Bd];omega)]
 have gt:∀s:St,s.1.length=12→(Bm s)[24]?=some (.int .i64 (s.2:Int)):=fun s h=>by
  unfold Bm;rw[aC5 (by rw[Bd];omega),Bd,h];rfl
 have hA:Jp Tryz.prog 11 82 (.agg (Cf a.1)) (.agg (Cf b.1))=some (decide (a.1=b.1)):=by
  unfold Jp
  simp only[Tryz.underlying82,h4,ao8]
  rw[aQM 8 ha hb (aLK 12) (fun i hi=>aE6.1 hi)]
  congr 1
  rw[decide_eq_decide]
  constructor
  ·intro h
   refine List.ext_getElem? fun i=>?_
   by_cases hi:i<12
   ·exact h i (aE6.2 hi)
   ·rw[aT1 (by omega),aT1 (by omega)]
  ·intro h i _;rw[h]
 have hI:Jp Tryz.prog 11 3 (.int .i64 (a.2:Int)) (.int .i64 (b.2:Int))=some (decide (a.2=b.2)):=by
  unfold Jp
  simp only[Tryz.underlying3,if_true]
  congr 1
  rw[Bool.eq_iff_iff];simp;omega
 unfold Jp
 simp only[Tryz.underlying85,h0,aC7,if_false,Jp.eqL,Jp.partOf,h1,h2,h3,ao8,if_true,awX,aT2,tk a ha,tk b hb,gt a ha,gt b hb,hA,hI]
 obtain⟨x,f⟩:=a
 obtain⟨y,g⟩:=b
 by_cases q1:x=y<;>by_cases q2:f=g<;>simp[q1,q2]
def Da(kvs:List AV):CB:=.lp [] .skip .skip kvs .map
def En(L:List St)(v:St→AV):List AV:=L.flatMap fun s=>[.agg (Bm s),v s]
def Twl(L:List St):Prop:=∀s∈L,s.1.length=12
theorem aOK(d:Nat)(x:Int × Bool):ahD Tryz.prog (d+2) 80 (.agg [.int .i64 x.1,.bool x.2])=true:=by
 have h1:Oq Tryz.prog 78=some false:=by kernel_rfl
 have h2:Oq Tryz.prog 4=some false:=by kernel_rfl
 unfold ahD
 simp only[Tryz.underlying80,Jp.partOf,h1,h2,ao8,List.all_cons,List.all_nil,aC7,if_false,aS7,aJ9,awX,aFD]
 unfold ahD
 simp only[Tryz.underlying78,Tryz.underlying4]
 rfl
theorem aBJ{s:St}(hs:s.1.length=12):aMA Tryz.prog 85 (.agg (Bm s))=true:=by
 have h1:Oq Tryz.prog 82=some true:=by kernel_rfl
 have h2:Oq Tryz.prog 3=some false:=by kernel_rfl
 have h3:Ji Tryz.prog 82=some 24:=by kernel_rfl
 have h4:Ji Tryz.prog 80=some 2:=by kernel_rfl
 have tk:aqM 24 (Bm s)=Cf s.1:=by
  unfold Bm;rw[aC8 (by rw[Bd];omega),aqT (by rw[Bd];omega)]
 have gt:(Bm s)[24]?=some (.int .i64 (s.2:Int)):=by
  unfold Bm;rw[aC5 (by rw[Bd];omega),Bd,hs];rfl
 have hA:ahD Tryz.prog 4 82 (.agg (Cf s.1))=true:=by
  unfold ahD
  simp only[Tryz.underlying82,h4,awX,aFD]
  rw[aM0]
  intro i hi
  have hi:=aE6.1 hi
  have e1:s.1[i]?=some s.1[i]:=aC4 (by omega)
  rw[aGX e1,awX,aFD,aOK 1]
 have hI:ahD Tryz.prog 4 3 (.int .i64 (s.2:Int))=true:=by
  unfold ahD
  simp only[Tryz.underlying3]
  rfl
 unfold aMA
 simp only[Ff,Bool.and_true]
 unfold ahD
 simp only[Tryz.underlying85,Jp.partOf,h1,h2,h3,ao8,List.all_cons,List.all_nil,aC7,if_false,if_true,awX,aFD,aT2,tk,gt,hA,hI,Bool.and_true]
theorem Nw{s:St}(hs:s.1.length=12)(v:St→AV):∀(L:List St) (i:Nat),Twl L→aoM Tryz.prog 85 (.agg (Bm s)) (En L v) i=some (if s∈L then some (i+L.idxOf s,v s)else none)
 | [],i,_=>rfl
 |a::L,i,h=>by
  have ha:=h a (by simp)
  have ih:=Nw hs v L (i+1) fun x hx=>h x (aKY _ hx)
  show aoM _ _ _ (.agg (Bm a)::v a::En L v) i=_
  simp only[aoM,a5A hs ha,ao8,ih]
  by_cases e:s=a
  ·subst e;simp
  ·have e2:(a==s)=false:=by simp;exact fun h=>e h.symm
   simp only[decide_eq_true_eq,e,if_false,aH6,false_or,aT3,e2,cond_false,aM7.injEq]
   split
   ·rw[show i+1+aIF s L=i+(aIF s L+1) by omega]
   ·rfl
theorem aV1(v:St→AV):∀(L:List St) (n:Nat),(En L v)[2*n]?=L[n]?.map fun s=>.agg (Bm s)
 | [],n=>rfl
 |a::L,0=>rfl
 |a::L,n+1=>by
  show(.agg (Bm a)::v a::En L v)[2*(n+1)]?=_
  rw[show 2*(n+1)=2*n+2 by omega]
  simp only[aJ9,aV1 v L n]
theorem aVV{v:St→AV}{x:AV}{s:St}:∀{L:List St},L.Nodup→s∈L→(En L v).set (2*L.idxOf s+1) x=En L fun y=>if y=s then x else v y
 | [],_,h=>by cases h
 |a::L,hn,h=>by
  have hn':=List.nodup_cons.1 hn
  show(.agg (Bm a)::v a::En L v).set (2*(a::L).idxOf s+1) x=.agg (Bm a)::(if a=s then x else v a)::En L fun y=>if y=s then x else v y
  have same:s∉L→(En L fun y=>if y=s then x else v y)=En L v:=fun hs=>by
   unfold En
   rw[aIS,aIS]
   congr 1
   refine aWL fun y hy=>?_
   simp only[if_neg (show ¬y=s from fun e=>hs (e▸hy))]
  by_cases e:a=s
  ·subst e
   simp[same hn'.1]
  ·have e2:(a==s)=false:=by simpa using e
   rcases aH6.1 h with h|h
   ·exact absurd h.symm e
   ·simp only[aT3,e2,cond_false,if_neg e]
    rw[show 2*(aIF s L+1)+1=(2*aIF s L+1)+2 by omega]
    simp only[List.set_cons_succ,aVV hn'.2 h]
theorem aQA(s:St):AV.sameKey (.agg (Bm s)) (.agg (Bm s))=true:=by
 have h:∀x∈Bm s,AV.same x x=true:=fun x hx=>by
  unfold Bm at hx
  rcases aNT.1 hx with hx|hx
  ·rcases Hw s.1 x hx with⟨n,rfl⟩|⟨b,rfl⟩<;>simp[AV.same]
  ·simp at hx;subst hx;simp[AV.same]
 simp only[AV.sameKey,beq_self_eq_true,Bool.true_and,aM0]
 intro ⟨x,y⟩ hxy
 obtain⟨i,hi⟩:=aNU hxy
 rw[List.getElem?_zip_eq_some]at hi
 obtain⟨h1,h2⟩:=hi
 simp only at h1 h2
 rw[h1]at h2;cases h2
 exact h x (aAR h1)
theorem alK{h:Aa}{b:Nat}{kvs:List AV}(hb:h[b]?=some (Da kvs)):Me (hf h) b=some kvs:=by
 unfold Me
 rw[show hf h b=some (Da kvs)from hb];rfl
section
variable {h:Aa} {b:Nat} {L:List St} {v:St→AV} {s:St}
theorem aG6(hb:h[b]?=some (Da (En L v)))(hL:Twl L)(hs:s∈L):lk Tryz.prog h 86 (some (.mapr b)) (some (.agg (Bm s))) false=some (.ret (v s),[]):=by
 have hz:Es Tryz.prog 3=some (.int .i64 0):=by kernel_rfl
 simp only[lk,ao8,Ek,Tryz.underlying86,aBJ (hL s hs),if_true,alK hb,Nw (hL s hs) v L 0 hL,if_pos hs,hz,cond_false]
 rfl
theorem a5G(hb:h[b]?=some (Da (En L v)))(hL:Twl L)(hs:s∈L):lk Tryz.prog h 86 (some (.mapr b)) (some (.agg (Bm s))) true=some (.ret (.tup [v s,.bool true]),[]):=by
 have hz:Es Tryz.prog 3=some (.int .i64 0):=by kernel_rfl
 simp only[lk,ao8,Ek,Tryz.underlying86,aBJ (hL s hs),if_true,alK hb,Nw (hL s hs) v L 0 hL,if_pos hs,hz,cond_true]
 rfl
theorem a8Q(hb:h[b]?=some (Da (En L v)))(hL:Twl L)(h12:s.1.length=12)(hs:s∉L):lk Tryz.prog h 86 (some (.mapr b)) (some (.agg (Bm s))) true=some (.ret (.tup [.int .i64 0,.bool false]),[]):=by
 have hz:Es Tryz.prog 3=some (.int .i64 0):=by kernel_rfl
 simp only[lk,ao8,Ek,Tryz.underlying86,aBJ h12,if_true,alK hb,Nw h12 v L 0 hL,if_neg hs,hz,cond_true]
 rfl
theorem aOA(hb:h[b]?=some (Da (En L v)))(hL:Twl L)(hs:s∈L):lk Tryz.prog h 87 (some (.mapr b)) (some (.agg (Bm s))) false=some (.ret (v s),[]):=by
 have hz:Es Tryz.prog 91=some .nils:=by kernel_rfl
 simp only[lk,ao8,Ek,Tryz.underlying87,aBJ (hL s hs),if_true,alK hb,Nw (hL s hs) v L 0 hL,if_pos hs,hz,cond_false]
 rfl
theorem aOD(hb:h[b]?=some (Da (En L v)))(hL:Twl L)(hn:L.Nodup)(hs:s∈L)(x:AV):ms Tryz.prog h 86 (some (.mapr b)) (some (.agg (Bm s))) (some x)=some (.ret (.tup []),[.put b (Da (En L fun y=>if y=s then x else v y))]):=by
 have hi:L[L.idxOf s]?=some s:=by
  rw[aC4 (List.idxOf_lt_length_of_mem hs)];simp
 simp only[ms,ao8,Gp,Tryz.underlying86,aBJ (hL s hs),if_true,alK hb,Nw (hL s hs) v L 0 hL,if_pos hs,Nat.zero_add,aV1,hi,awX,aFD,aQA,aVV hn hs]
 rfl
theorem aYE(hs:s∉L)(x:AV):En L v++[.agg (Bm s),x]=En (L++[s]) fun y=>if y=s then x else v y:=by
 unfold En
 rw[List.flatMap_append]
 congr 1
 ·rw[aIS,aIS]
  congr 1
  refine aWL fun y hy=>?_
  simp only[if_neg (show ¬y=s from fun e=>hs (e▸hy))]
 ·simp
theorem a6H(hb:h[b]?=some (Da (En L v)))(hL:Twl L)(h12:s.1.length=12)(hs:s∉L)(x:AV):ms Tryz.prog h 86 (some (.mapr b)) (some (.agg (Bm s))) (some x)=some (.ret (.tup []),[.put b (Da (En (L++[s]) fun y=>if y=s then x else v y))]):=by
 rw[←aYE hs]
 simp only[ms,ao8,Gp,Tryz.underlying86,aBJ h12,if_true,alK hb,Nw h12 v L 0 hL,if_neg hs]
 rfl
theorem a7L(hb:h[b]?=some (Da (En L v)))(hL:Twl L)(h12:s.1.length=12)(hs:s∉L)(x:AV):ms Tryz.prog h 87 (some (.mapr b)) (some (.agg (Bm s))) (some x)=some (.ret (.tup []),[.put b (Da (En (L++[s]) fun y=>if y=s then x else v y))]):=by
 rw[←aYE hs]
 simp only[ms,ao8,Gp,Tryz.underlying87,aBJ h12,if_true,alK hb,Nw h12 v L 0 hL,if_neg hs]
 rfl
end
def Cd:Nat:=1099511627776
def Ni(f:St→Nat)(s:St):AV:=.int .i64 (f s:Int)
theorem a00(f:St→Nat)(x:St)(m:Nat):(if((f x:Nat):Int)>(m:Int)then((f x:Nat):Int)else(m:Int))=((max m (f x):Nat):Int):=by split<;>omega
theorem a1S(L:List St)(f:St→Nat)(d:Nat)(m:List Nat):Bc.refL (Bc (d+2)) m (En L (Ni f))=some (En L (Ni f),m):=Fb fun x hx=>by
 unfold En at hx
 obtain⟨s,_,hx⟩:=aWS.1 hx
 simp only[aH6,aXT,or_false]at hx
 rcases hx with rfl|rfl
 ·have:∀y∈Bm s,Bc (d+1) m y=some (y,m):=fun y hy=>by
   unfold Bm at hy
   rcases aNT.1 hy with hy|hy
   ·rcases Hw s.1 y hy with⟨n,rfl⟩|⟨b,rfl⟩<;>rfl
   ·simp at hy;subst hy;rfl
  show(Bc.refL (Bc (d+1)) m (Bm s)).map _=_
  rw[Fb this];rfl
 ·rfl
theorem Ku(L:List St)(f:St→Nat)(m:List Nat):aBU m (Da (En L (Ni f)))=some (Da (En L (Ni f)),m):=by
 simp[Da,aBU,a1S L f 6]
theorem aIH:∀(l:List AV),(∀x∈l,AV.sameKey x x=true)→AV.sameL l l=true
 | [],_=>rfl
 |x::l,h=>by simp only[AV.sameL,h x (by simp),aIH l fun y hy=>h y (aKY _ hy),Bool.and_self]
theorem Oi(L:List St)(f:St→Nat):CB.same (Da (En L (Ni f))) (Da (En L (Ni f)))=true:=aIH _ fun x hx=>by
 unfold En at hx
 obtain⟨s,_,hx⟩:=aWS.1 hx
 simp only[aH6,aXT,or_false]at hx
 rcases hx with rfl|rfl
 ·exact aQA s
 ·simp[Ni,AV.sameKey,AV.same]
theorem Om(kvs:List AV):(Da kvs).clean=Da kvs:=Eq.trans rfl rfl
theorem ayI(kvs:List AV):(Da kvs).isLive=true:=Eq.trans rfl rfl
theorem aZ1{L:List St}{f:St→Nat}(hL:Twl L)(hf:∀s∈L,f s≤Cd){to:List St}(ht:∀s∈to,s∈L)(hlen:to.length≤2){k:Int}{i:Int}{c:Nat}(hc:c≤1000)(nn:Bool):
 Ei.call (.fn 44) [.agg [.int .i64 k,.int .i64 i,.int .i64 (c:Int),Bo 25 true nn (to.map Bm)],.mapr 0] [Da (En L (Ni f))]=some (.ret (.int .i64 (min Cd (c+Sys.mx f to):Nat)),[Da (En L (Ni f))]):=by
 refine ce Tryz.func44 ?_
 simp only[Tryz.f44]
 (have hb:=trivial;with_reducible repeat' (first|simp only[hb,Vc.down,seval,a1Q.down,agX]|refine Av ?_ ?_<;>intro hb|refine fd ?_|fail))
 refine Hn (lst 26 to (fun j (m:Nat) t h=>t 1=.mapr 0∧t 2=.ptr 1 0 0∧t 5=.int .i64 (m:Int)∧t 9=Bo 25 true nn (to.map Bm)∧t 10=.int .i64 (to.length:Nat)∧t 11=.int .i64 (j:Int)∧m≤Cd∧h[0]?=some (Da (En L (Ni f)))∧∃fl x,h[1]?=some (.live 4 fl x [[.int .i64 k,.int .i64 i,.int .i64 (c:Int),Bo 25 true nn (to.map Bm)]])) (fun rest m=>rest.foldl (fun m x=>max m (f x)) m)
  (fun r e t h=>e=.exit 0∧t 2=.ptr 1 0 0∧t 5=.int .i64 (r:Int)∧r≤Cd∧h[0]?=some (Da (En L (Ni f)))∧∃fl x,h[1]?=some (.live 4 fl x [[.int .i64 k,.int .i64 i,.int .i64 (c:Int),Bo 25 true nn (to.map Bm)]])) ?_ ?_ 0 _ _ ?_) (fun e t h hk=>?_)
 ·rintro m t h Q' kQ ⟨g1,g2,g5,g9,g10,g11,hm,hM,fl,x,hB⟩
  (have hb:=trivial;with_reducible repeat' (first|simp only[hb,Vc.down,seval,a1Q.down,g10,g11,aEY,decide_false]|refine Av ?_ ?_<;>intro hb|refine fd ?_|fail))
  exact kQ _ _ _ ⟨rfl,by simp[up,g2],by simp[up,g5],hm,hM,fl,x,hB⟩
 ·rintro z rest j m t h J Q' kJ kQ hx hj ⟨g1,g2,g5,g9,g10,g11,hm,hM,fl,x,hB⟩
  have hdd:decide ((j:Int)<(to.length:Int))=true:=decide_eq_true (by omega)
  have hww:=Ci hj (by unfold maxLen;omega)
  have hz:=ht z (aAR hx)
  have hfz:=hf z hz
  have hM2:=Ah hM
  have hlk:=fun l=>aG6 (v:=Ni f) (hM2 l) hL hz
  have hzl:=Hh (hL z hz)
  have hzf:=Ff z
  have hzc:=Gf z
  have htk:aqM 25 (Bm z)=Bm z:=aqT (by omega)
  have hmx:=a00 f z m
  (have hb:=trivial;with_reducible repeat' (first|simp only[hb,Vc.down,seval,a1Q.down,g1,g5,g9,g10,g11,hdd,hww,hx,hM2,hlk,hzl,hzf,hzc,htk,Ni,hmx,agX]|refine Av ?_ ?_<;>intro hb|refine fd ?_|fail))
  exact Bh (kJ _ _ (max m (f z)) ⟨by simp[up,g1],by simp[up,g2],by simp[up],by simp[up,g9],by simp[up,g10],by simp[up],by omega,hM2 _,fl,x,Ah hB _⟩ rfl)
 ·exact⟨by simp[up,Oc],by simp[up],by simp[up],by simp[up],by simp[up],by simp[up],aNV _,rfl,_,_,rfl⟩
 obtain⟨rfl,g2,g5,hm,hM,fl,x,hB⟩:=hk
 change t 5=.int .i64 ((Sys.mx f to:Nat):Int)at g5
 change Sys.mx f to≤Cd at hm
 generalize Sys.mx f to=m at *
 have hww:IntKind.i64.wrap ((c:Int)+(m:Int))=((c+m:Nat):Int):=by rw[It (by unfold Cd at hm;omega) (by unfold Cd at hm;omega)];omega
 have hmn:(if((c+m:Nat):Int)<1099511627776 then((c+m:Nat):Int)else 1099511627776)=((min Cd (c+m):Nat):Int):=by unfold Cd;split<;>omega
 (have hb:=trivial;with_reducible repeat' (first|simp only[hb,Vc.down,seval,a1Q.down,g2,g5,hB,hM,hww,hmn,Ku]|refine Av ?_ ?_<;>intro hb|refine fd ?_|fail))
structure COk(L:List St)(o:Je):Prop where
 c0:0≤o.c
 c1:o.c≤1000
 to:∀s∈o.to,s∈L
 ne:o.to≠[]
 two:o.to.length≤2
def Je.cells(o:Je):List AV:=[.int .i64 o.k,.int .i64 (o.i:Int),.int .i64 o.c,Bo 25 true false (o.to.map Bm)]
def wst(f:St→Nat)(o:Je):Nat:=min Cd (o.c.toNat+Go.Ev.Sys.mx f o.to)
def Nn(f:St→Nat)(n:Nat)(l:List Je):Nat:=l.foldl (fun m o=>min m (wst f o)) n
theorem aK0{L:List St}{f:St→Nat}(hL:Twl L)(hf:∀s∈L,f s≤Cd){o:Je}(ho:COk L o):
 Ei.call (.fn 44) [.agg o.cells,.mapr 0] [Da (En L (Ni f))]=some (.ret (.int .i64 (wst f o:Nat)),[Da (En L (Ni f))]):=by
 have h:=aZ1 hL hf ho.to ho.two (k:=o.k) (i:=o.i) (c:=o.c.toNat) (by have:=ho.c1;omega) false
 rw[show((o.c.toNat:Nat):Int)=o.c by have:=ho.c0;omega]at h
 exact h
theorem aXX{L:List St}{f:St→Nat}(hL:Twl L)(hf:∀s∈L,f s≤Cd){o:Je}(ho:COk L o)(x:Bool):
 Ei.call (.fn 68) [.agg o.cells,.ptr 0 0 0] [.live 1 false x [[.mapr 1]],Da (En L (Ni f))]=some (.ret (.int .i64 (wst f o:Nat)),[.live 1 false x [[.mapr 1]],Da (En L (Ni f))]):=by
 have h:=aK0 hL hf ho
 have hne:o.to.map Bm≠[]:=by simpa using ho.ne
 simp only[Je.cells,av0 hne]at h ⊢
 refine ce Tryz.func68 ?_
 simp only[Tryz.f68]
 (have hb:=trivial;with_reducible repeat' (first|simp only[hb,Vc.down,seval,bb8.down,h,Ku,Oi,Om,Kt.down]|refine Av ?_ ?_<;>intro hb|refine fd ?_|fail))
theorem a1O(a b:Nat):(if(a:Int)<(b:Int)then(a:Int)else(b:Int))=((min b a:Nat):Int):=by split<;>omega
theorem a2U{L:List St}{f:St→Nat}(hL:Twl L)(hf:∀s∈L,f s≤Cd){l:List Je}(hl:∀o∈l,COk L o)(hlen:l.length≤maxLen)(nn:Bool)(n:Nat)(x:Bool):
 Ei.call (.fn 67) [Bo 4 false nn (l.map Je.cells),.func (.func 68) [] [.ptr 0 0 0],.int .i64 (n:Int)] [.live 1 false x [[.mapr 1]],Da (En L (Ni f))]=some (.ret (.int .i64 (Nn f n l:Nat)),[.live 1 false x [[.mapr 1]],Da (En L (Ni f))]):=by
 obtain⟨q1,hq1⟩:∃q,Fn.func 68=q:=⟨_,rfl⟩
 refine ce Tryz.func67 ?_
 simp only[Tryz.f67]
 (have hb:=trivial;with_reducible repeat' (first|simp only[hb,Vc.down,seval,a2H.down,agX]|refine Av ?_ ?_<;>intro hb|refine fd ?_|fail))
 refine Hn (lst 22 l (fun j (m:Nat) t h=>t 1=.func (.func 68) [] [.ptr 0 0 0]∧t 2=.int .i64 (m:Int)∧t 9=Bo 4 false nn (l.map Je.cells)∧t 10=.int .i64 (l.length:Nat)∧t 11=.int .i64 (j:Int)∧h[0]?=some (.live 1 false x [[.mapr 1]])∧h[1]?=some (Da (En L (Ni f)))) (fun rest m=>rest.foldl (fun m o=>min m (wst f o)) m)
  (fun r e t h=>e=.exit 0∧t 2=.int .i64 (r:Int)∧h[0]?=some (.live 1 false x [[.mapr 1]])∧h[1]?=some (Da (En L (Ni f)))) ?_ ?_ n _ _ ?_) (fun e t h hk=>?_)
 ·rintro m t h Q' kQ ⟨g1,g2,g9,g10,g11,hB,hM⟩
  (have hb:=trivial;with_reducible repeat' (first|simp only[hb,Vc.down,seval,a2H.down,g10,g11,aEY,decide_false]|refine Av ?_ ?_<;>intro hb|refine fd ?_|fail))
  exact kQ _ _ _ ⟨rfl,by simp[up,g2],hB,hM⟩
 ·rintro o rest j m t h J Q' kJ kQ hx hj ⟨g1,g2,g9,g10,g11,hB,hM⟩
  have hdd:decide ((j:Int)<(l.length:Int))=true:=decide_eq_true (by omega)
  have hww:=Ci hj (by unfold maxLen at hlen;unfold maxLen;omega)
  have ho:=hl o (aAR hx)
  have hc:=aXX hL hf ho false
  have hmn:=a1O (wst f o) m
  have hB2:=Ah hB
  have hM2:=Ah hM
  have hne:o.to.map Bm≠[]:=by simpa using ho.ne
  simp only[Je.cells,av0 hne]at hc
  have hcs:o.cells=[.int .i64 o.k,.int .i64 (o.i:Int),.int .i64 o.c,.imm 25 true (o.to.map Bm)]:=by simp only[Je.cells,av0 hne]
  (have hb:=trivial;with_reducible repeat' (first|simp only[hb,Vc.down,seval,a2H.down,g1,g2,g9,g10,g11,hdd,hww,hx,hB,hM,hB2,hM2,hcs,hc,hmn,Ku,Oi,Om,Kt.down,agX]|refine Av ?_ ?_<;>intro hb|refine fd ?_|fail))
  exact Bh (kJ _ _ (min m (wst f o)) ⟨by simp[up,g1],by simp[up],by simp[up,g9],by simp[up,g10],by simp[up],hB2 _,hM2 _⟩ rfl)
 ·exact⟨by simp[up,Oc],by simp[up,Oc],by simp[up],by simp[up],by simp[up],rfl,rfl⟩
 obtain⟨rfl,g2,hB,hM⟩:=hk
 change t 2=.int .i64 (Nn f n l:Nat)at g2
 (have hb:=trivial;with_reducible repeat' (first|simp only[hb,Vc.down,seval,a2H.down,g2,hB,hM,Ku,Kt.down]|refine Av ?_ ?_<;>intro hb|refine fd ?_|fail))
def aoN(w:Am)(d:Int)(x:Bool):CB:=.live 4 false x [[.int .i64 w.rooms,.int .i64 w.need,Bo 9 true w.nn (w.parts.map Ai.cells),.int .i64 d]]
def aCU(w:Am)(N:Nat)(s:St):Nat→List Je
 |0=>[]
 |i+1=>aCU w N s i++aHZ w N s ((i:Int)+1)
theorem a5T(w:Am)(N:Nat)(s:St):aCU w N s 4=Dj w N s:=by
 simp[aCU,Dj]
def aGO(w:Am)(N:Nat)(s:St)(k:Int)(j:Nat):List Je:=(aLK j).filterMap (aJ3 w N s k)
theorem aTY(w:Am)(N:Nat)(s:St)(k:Int)(j:Nat):aGO w N s k (j+1)=aGO w N s k j++(aJ3 w N s k j).toList:=by
 unfold aGO
 rw[List.range_succ,List.filterMap_append]
 congr 1
theorem aZJ{H h:Aa}(k:Hv [] H h)(l:Aa):Hv [] H (h++l):=k.trans (Hv.app h l)
theorem _root_.Go.Ev.LLG.app{st lo:Nat}{ov:AV}{h:Aa}{rows Q:List (List AV)}{Ro:List Nat}(I:LLG st lo ov h rows Q Ro)(l:Aa):LLG st lo ov (h++l) rows Q Ro:=I.keep (by simp) fun b _ hb=>aJY hb
theorem aOJ{st lo:Nat}{ov:AV}{h:Aa}{rows Q:List (List AV)}{Ro:List Nat}(I:LLG st lo ov h rows Q Ro)(l:Aa):kl 0 ov (h++l)=kl 0 ov h++l:=by
 unfold kl
 split
 ·rename_i a b r n
  have:=(I.dov _ _ _ _ rfl).2.2
  rw[List.set_append_left _ _ (by omega)]
 ·rfl
theorem kKl{H h:Aa}{st:Nat}{ov:AV}{rows Q:List (List AV)}{Ro:List Nat}(hK:Hv [] H h)(I:LLG st (H.length+1) ov h rows Q Ro)(l:Aa):Hv [] H (kl 0 ov h++l):=
 ⟨by rw[aXY,aDC];have:=hK.len;omega,fun b hb hn=>by
   rw[arR _ (by have:=hK.len;omega) fun a c r n e e2=>by have:=(I.dov a c r n e).1;omega]
   exact hK.same b hb hn⟩
theorem aR4{w:Am}{N:Nat}(hw:WOk w N)(h12:w.parts.length≤12)(d:Int){H:Aa}{lb:Nat}{wf:Bool}(hlb:H[lb]?=some (aoN w d wf)){s:St}(hs:s.1.length=12)(hf3:s.2≤3):
 ShQ Ei 65 [.ptr lb 0 0,.agg (Bm s)] H fun o G=>(∃v R,o=.ret v∧rd 6 (hf G) v=some (Bo 4 false false ((Dj w N s).map Je.cells),R)∧∀b∈R,H.length≤b)∧Hv [] H G:=by
 have hlen:=hw.len
 have hsl:=Hh hs
 have hsf:=Ff s
 have hsc:=Gf s
 have htk:aqM 25 (Bm s)=Bm s:=aqT (by omega)
 refine aPE rfl Tryz.func65 rfl rfl ?_
 simp only[Tryz.f65]
 (have hb:=trivial;with_reducible repeat' (first|simp only[hb,Vc.down,seval,aHB.down,hsl,hsf,hsc,htk,agX]|refine Av ?_ ?_<;>intro hb|refine fd ?_|fail))
 refine Hn (lst 84 (List.replicate 4 ()) (fun i (_:Unit) t h=>t 0=.ptr lb 0 0∧t 3=.ptr H.length 0 0∧t 6=.int .i64 ((i:Int)+1)∧Hv [] H h∧(∃x,h[H.length]?=some (.live 25 true x [Bm s]))∧∃rows Ro,LLG 4 (H.length+1) (t 5) h rows ((aCU w N s i).map Je.cells) Ro∧rows.length≤12*i) (fun _ _=>())
  (fun _ e t h=>e=.exit 0∧Hv [] H h∧∃rows Ro,LLG 4 (H.length+1) (t 5) h rows ((aCU w N s 4).map Je.cells) Ro) ?_ ?_ () _ _ ?_) (fun e t h hk=>?_)
 ·rintro _ t h Q' kQ ⟨g0,g3,g6,hK,hB,rows,Ro,hL,_⟩
  rw[aY2]at g6 hL
  have h5:decide (((4:Nat):Int)+1≤4)=false:=rfl
  (have hb:=trivial;with_reducible repeat' (first|simp only[hb,Vc.down,seval,aHB.down,g6,h5]|refine Av ?_ ?_<;>intro hb|refine fd ?_|fail))
  exact kQ _ _ _ ⟨rfl,hK,rows,Ro,by simpa [up]using hL⟩
 ·rintro _ rest i _ t h J Q' kJ kQ hx hi ⟨g0,g3,g6,hK,⟨x,hB⟩,rows,Ro,hL,hrl0⟩
  rw[aY2]at hi
  obtain⟨k,hk⟩:∃k:Int,(i:Int)+1=k:=⟨_,rfl⟩
  have hk4:k=1∨k=2∨k=3∨k=4:=by omega
  rw[hk]at g6
  have h5:decide (k≤4)=true:=decide_eq_true (by omega)
  have hwk:IntKind.i64.wrap (k+1)=k+1:=It (by omega) (by omega)
  have hlh:h[lb]?=some (aoN w d wf):=(hK.same lb (Eg hlb) (by simp)).trans hlb
  unfold aoN at hlh
  (have hb:=trivial;with_reducible repeat' (first|simp only[hb,Vc.down,seval,aHB.down,g0,g3,g6,h5,hlh,agX]|refine Av ?_ ?_<;>intro hb|refine fd ?_|fail))
  refine Hn (lst 84 w.parts (fun j (_:Unit) t h=>t 0=.ptr lb 0 0∧t 3=.ptr H.length 0 0∧t 6=.int .i64 k∧t 19=Bo 9 true w.nn (w.parts.map Ai.cells)∧t 20=.int .i64 (w.parts.length:Nat)∧t 21=.int .i64 (j:Int)∧Hv [] H h∧(∃x,h[H.length]?=some (.live 25 true x [Bm s]))∧∃rows Ro,LLG 4 (H.length+1) (t 5) h rows ((aCU w N s i++aGO w N s k j).map Je.cells) Ro∧rows.length≤12*i+j) (fun _ _=>())
   (fun _ e t h=>e=.exit 2∧t 0=.ptr lb 0 0∧t 3=.ptr H.length 0 0∧t 6=.int .i64 k∧Hv [] H h∧(∃x,h[H.length]?=some (.live 25 true x [Bm s]))∧∃rows Ro,LLG 4 (H.length+1) (t 5) h rows ((aCU w N s i++aHZ w N s k).map Je.cells) Ro∧rows.length≤12*i+w.parts.length) ?_ ?_ () _ _ ?_) (fun e t h hk'=>?_)
  ·rintro _ t h Q'' kQ ⟨g0,g3,g6,g19,g20,g21,hK,hB,rows,Ro,hL,hrl⟩
   (have hb:=trivial;with_reducible repeat' (first|simp only[hb,Vc.down,seval,aHB.down,g20,g21,aEY,decide_false]|refine Av ?_ ?_<;>intro hb|refine fd ?_|fail))
   exact kQ _ _ _ ⟨rfl,by simp[up,g0],by simp[up,g3],by simp[up,g6],hK,hB,rows,Ro,by simp only[up];exact hL,hrl⟩
  ·rintro p rest j _ t h J' Q'' kJ' kQ' hx hj ⟨g0,g3,g6,g19,g20,g21,hK,⟨x,hB⟩,rows,Ro,hL,hrl⟩
   obtain⟨ov,g5⟩:∃ov,t 5=ov:=⟨_,rfl⟩
   rw[g5]at hL
   have hdd:decide ((j:Int)<(w.parts.length:Int))=true:=decide_eq_true (by omega)
   have hww:=Ci hj (by unfold maxLen;omega)
   obtain⟨y,hy⟩:∃y,s.1[j]?=some y:=⟨_,aC4 (by omega)⟩
   have hC:=a9L p y hk4
   have hS:=a52 hw h12 d hs hy hk4 true false
   have hcf:aJ3 w N s k j=if(aO2 p y k&&aD7 w N s.1 k j true y)=true then some ⟨k,j,aOX p k,toF s.1 s.2 k j y⟩else none:=by
    unfold aJ3;rw[hx,hy]
   have hnx:=aTY w N s k j
   rw[hcf]at hnx
   have i12:((j:Int)<12)=True:=eq_true (by omega)
   have hpz:(j*2≤23)=True:=eq_true (by omega)
   have hpz2:(j*2≤24)=True:=eq_true (by omega)
   have hp25:(j*2+2≤25)=True:=eq_true (by omega)
   have st2:aqM 2 (aNZ (j*2) (Bm s))=[.int .i64 y.1,.bool y.2]:=by
    unfold Bm
    rw[List.drop_append_of_le_length (by rw[Bd];omega),aC8 (by rw[List.length_drop,Bd];omega)]
    obtain⟨a,b⟩:=y
    exact aDA s.1 j a b hy
   have st24:aqM 24 (Bm s)=Cf s.1:=by
    unfold Bm;rw[aC8 (by rw[Bd];omega),aqT (by rw[Bd];omega)]
   have hB2:=Ah hB
   have hlh:h[lb]?=some (aoN w d wf):=(hK.same lb (Eg hlb) (by simp)).trans hlb
   unfold aoN at hlh
   have hlh2:=Ah hlh
   simp only[Ai.cells]at hC
   have f0:=Gh s.1
   have k0:=Gi s.1
   have v0:=aAW s.1
   have l0:=aA9 s.1
   have r0:=Ou s.1
   have p0:=am1 s.1
   have n0:=aDT s.1
   have i0:=aDI s.1
   have hpl:(Cf s.1).length=24:=by rw[Bd];omega
   cases cC:aO2 p y k with
   |false=>
    rw[cC]at hC hnx
    simp only[Bool.false_and,aC7,if_false,aY3,aY4]at hnx
    (have hb:=trivial;with_reducible repeat' (first|simp only[hb,Vc.down,seval,aHB.down,g0,g3,g6,g19,g20,g21,hdd,hww,hx,hB,hB2,hsl,hC,i12,hpz,hpz2,hp25,st2,st24,Gg,hlh,hlh2,Ai.cells,agX]|refine Av ?_ ?_<;>intro hb|refine fd ?_|fail))
    exact Bh (kJ' _ _ () ⟨by simp[up,g0],by simp[up,g3],by simp[up,g6],by simp[up,g19],by simp[up,g20],by simp[up],aZJ hK _,⟨x,hB2 _⟩,rows,Ro,by rw[hnx];simp only[up];rw[g5];exact hL.app _,by omega⟩ rfl)
   |true=>
    rw[cC]at hC hnx
    simp only[Bool.true_and]at hnx
    cases cS:aD7 w N s.1 k j true y with
    |false=>
     rw[cS]at hS hnx
     simp only[aC7,if_false,aY3,aY4]at hnx
     (have hb:=trivial;with_reducible repeat' (first|simp only[hb,Vc.down,seval,aHB.down,g0,g3,g6,g19,g20,g21,hdd,hww,hx,hB,hB2,hsl,hC,i12,hpz,hpz2,hp25,st2,st24,Gg,hlh,hlh2,Ai.cells,agX,hS,f0,k0,v0,l0,r0,p0,n0,i0,hpl]|refine Av ?_ ?_<;>intro hb|refine fd ?_|fail))
     exact Bh (kJ' _ _ () ⟨by simp[up,g0],by simp[up,g3],by simp[up,g6],by simp[up,g19],by simp[up,g20],by simp[up],aZJ hK _,⟨x,hB2 _⟩,rows,Ro,by rw[hnx];simp only[up];rw[g5];exact hL.app _,by omega⟩ rfl)
    |true=>
     rw[cS]at hS hnx
     simp only[if_true,Option.toList_some]at hnx
     have hP:=a2K p hk4
     simp only[Ai.cells]at hP
     have hA:=aKV hs hy hk4 true
     have hs1:(s.1.set j (Db k true y)).length=12:=by simpa using hs
     have f1:=Gh (s.1.set j (Db k true y))
     have k1:=Gi (s.1.set j (Db k true y))
     have p1:=am1 (s.1.set j (Db k true y))
     have r1:=Ou (s.1.set j (Db k true y))
     have n1:=aDT (s.1.set j (Db k true y))
     have i1:=aDI (s.1.set j (Db k true y))
     have hpl1:(Cf (s.1.set j (Db k true y))).length=24:=by rw[Bd];omega
     have stf:(Bm s)[24]?=some (.int .i64 (s.2:Int)):=by
      unfold Bm;rw[aC5 (by rw[Bd];omega),Bd,hs];rfl
     have b1:aqM 25 (Cf (s.1.set j (Db k true y)))=Cf (s.1.set j (Db k true y)):=aqT (by omega)
     have b2:∀z,aqM 24 (Cf (s.1.set j (Db k true y))++[z])=Cf (s.1.set j (Db k true y)):=fun z=>by rw[aC8 (by omega),aqT (by omega)]
     have b3:∀z,aNZ 25 (Cf (s.1.set j (Db k true y))++[z])=[]:=fun z=>aY5 (by simp;omega)
     obtain⟨s1,hs1e⟩:∃s1:St,(s.1.set j (Db k true y),s.2)=s1:=⟨_,rfl⟩
     have hst1:Cf (s.1.set j (Db k true y))++[AV.int .i64 (s.2:Int)]=Bm s1:=by rw[←hs1e];rfl
     have c1:=Gf s1
     have c2:=Ff s1
     have c3:(Bm s1).length=25:=Hh (by rw[←hs1e];exact hs1)
     have c4:aqM 25 (Bm s1)=Bm s1:=aqT (by omega)
     have hHh:H.length<h.length:=Ap hB
     obtain⟨sf,hsf0,hsf1,hsf2⟩:∃sf:Nat→Nat,sf H.length=0∧sf h.length=10∧∀k,sf (h.length+k)=k+10:=⟨fun b=>if b=H.length then 0 else b-h.length+10,by simp,by show(if _ then _ else _)=_;rw[if_neg (by omega)];omega,fun k=>by show(if _ then _ else _)=_;rw[if_neg (by omega)];omega⟩
     have hap:=fun(q:Aa) (r:List AV)=>a24 hL.own (pre:=[]) rfl q r [] (by simp;omega)
     have hhp:=fun(q:Aa) (r:List (List AV)) (ba:Nat)=>aVZ hL.own (pre:=[]) rfl q 4 false r ba
     simp only[List.nil_append,aHS,aXY,aJ1,List.length_set,Nat.reduceAdd]at hap hhp
     cases q3:(k==3)with
     |false=>
      (have hb:=trivial;with_reducible repeat' (first|simp only[hb,Vc.down,seval,aHB.down,g0,g3,g5,g6,g19,g20,g21,hdd,hww,hx,hB,hB2,hsl,hC,i12,hpz,hpz2,hp25,st2,st24,Gg,hlh,hlh2,Ai.cells,agX,hS,hap,hhp,f0,k0,v0,l0,r0,p0,n0,i0,hpl,hP,hA,f1,k1,p1,r1,n1,i1,hpl1,stf,q3,b1,b2,b3,hst1,c1,c2,c3,c4,aC6]|refine Av ?_ ?_<;>intro hb|((refine aFU (aFC (sf) ?_) ?_);(simp (discharger:=decide) only[aA0,am3,aN0,aOE,Nc,aA5,aA3,aBI,Lq,aeG,aHS,aJ1,hsf0,hsf1,hsf2];kernel_rfl);intro _)|refine fdq ?_|fail))
      have hto:toF s.1 s.2 k j y=[s1]:=by
       unfold toF;rw[if_neg (by rintro⟨h3,_⟩;rw[h3]at q3;cases q3),hs1e]
      refine Bh (kJ' _ _ () ⟨by simp[up,g0],by simp[up,g3],by simp[up,g6],by simp[up,g19],by simp[up,g20],by simp[up],?_,⟨x,?_⟩,rows++[[.int .i64 k,.int .i64 (j:Int),.int .i64 (if k=3 then p.test else if k=4 then p.change else 1),.slr 25 (h.length+2) 0 1]],Ro++[h.length+2],?_,by simp;omega⟩ rfl)
      ·exact kKl hK hL _
      ·rw[arR _ hHh fun a b r n e e2=>by have:=(hL.dov a b r n e).1;omega];exact hB
      ·have hQ:(aCU w N s i++aGO w N s k (j+1)).map Je.cells=(aCU w N s i++aGO w N s k j).map Je.cells++[[.int .i64 k,.int .i64 (j:Int),.int .i64 (if k=3 then p.test else if k=4 then p.change else 1),.imm 25 true [Bm s1]]]:=by
        rw[hnx,hto,←aP8,aQ4];rfl
       rw[hQ]
       have hsn:=hL.snoc (h':=h++[.live 9 true true [[.int .i64 p.one,.int .i64 p.other,.bool p.valve,.bool p.opn,.int .i64 p.tested,.int .i64 p.valid,.bool p.bad,.int .i64 p.test,.int .i64 p.change]],.live 2 true true [[.int .i64 k,.int .i64 (j:Int)]],.live 25 true false [Bm s1],.live 4 false true [[.int .i64 k,.int .i64 (j:Int),.int .i64 (if k=3 then p.test else if k=4 then p.change else 1),.slr 25 (h.length+2) 0 1]]]) (by simp) (fun b _ hb=>aJY hb) (r:=[.int .i64 k,.int .i64 (j:Int),.int .i64 (if k=3 then p.test else if k=4 then p.change else 1),.slr 25 (h.length+2) 0 1]) (Ey (aB7 ..) (Ey (aB7 ..) (Ey (aB7 ..) (Ey (aXD (rows:=[Bm s1]) (by
        show((h++_)[h.length+2]?).bind Bq=_
        rw[aC5 (by omega),aRR];rfl) rfl) Px)))) (by simp) (by omega) (.live 4 false false [[.int .i64 k,.int .i64 (j:Int),.int .i64 (if k=3 then p.test else if k=4 then p.change else 1),.slr 25 (h.length+2) 0 1]]) (m:=h.length+5) (n:=rows.length+1) (by simp) rfl
       rw[aOJ hL]at hsn
       simpa [up]using hsn
     |true=>
      have hk3:k=3:=by simpa using q3
      by_cases hf0:s.2=0
      ·have hgt:decide ((s.2:Int)>0)=false:=decide_eq_false (by omega)
       (have hb:=trivial;with_reducible repeat' (first|simp only[hb,Vc.down,seval,aHB.down,g0,g3,g5,g6,g19,g20,g21,hdd,hww,hx,hB,hB2,hsl,hC,i12,hpz,hpz2,hp25,st2,st24,Gg,hlh,hlh2,Ai.cells,agX,hS,hap,hhp,f0,k0,v0,l0,r0,p0,n0,i0,hpl,hP,hA,f1,k1,p1,r1,n1,i1,hpl1,stf,q3,hgt,b1,b2,b3,hst1,c1,c2,c3,c4,aC6]|refine Av ?_ ?_<;>intro hb|((refine aFU (aFC (sf) ?_) ?_);(simp (discharger:=decide) only[aA0,am3,aN0,aOE,Nc,aA5,aA3,aBI,Lq,aeG,aHS,aJ1,hsf0,hsf1,hsf2];kernel_rfl);intro _)|refine fdq ?_|fail))
       have hto:toF s.1 s.2 k j y=[s1]:=by
        unfold toF;rw[if_neg (by rintro⟨_,h3⟩;omega),hs1e]
       refine Bh (kJ' _ _ () ⟨by simp[up,g0],by simp[up,g3],by simp[up,g6],by simp[up,g19],by simp[up,g20],by simp[up],?_,⟨x,?_⟩,rows++[[.int .i64 k,.int .i64 (j:Int),.int .i64 (if k=3 then p.test else if k=4 then p.change else 1),.slr 25 (h.length+2) 0 1]],Ro++[h.length+2],?_,by simp;omega⟩ rfl)
       ·exact kKl hK hL _
       ·rw[arR _ hHh fun a b r n e e2=>by have:=(hL.dov a b r n e).1;omega];exact hB
       ·have hQ:(aCU w N s i++aGO w N s k (j+1)).map Je.cells=(aCU w N s i++aGO w N s k j).map Je.cells++[[.int .i64 k,.int .i64 (j:Int),.int .i64 (if k=3 then p.test else if k=4 then p.change else 1),.imm 25 true [Bm s1]]]:=by
         rw[hnx,hto,←aP8,aQ4];rfl
        rw[hQ]
        have hsn:=hL.snoc (h':=h++[.live 9 true true [[.int .i64 p.one,.int .i64 p.other,.bool p.valve,.bool p.opn,.int .i64 p.tested,.int .i64 p.valid,.bool p.bad,.int .i64 p.test,.int .i64 p.change]],.live 2 true true [[.int .i64 k,.int .i64 (j:Int)]],.live 25 true false [Bm s1],.live 4 false true [[.int .i64 k,.int .i64 (j:Int),.int .i64 (if k=3 then p.test else if k=4 then p.change else 1),.slr 25 (h.length+2) 0 1]]]) (by simp) (fun b _ hb=>aJY hb) (r:=[.int .i64 k,.int .i64 (j:Int),.int .i64 (if k=3 then p.test else if k=4 then p.change else 1),.slr 25 (h.length+2) 0 1]) (Ey (aB7 ..) (Ey (aB7 ..) (Ey (aB7 ..) (Ey (aXD (rows:=[Bm s1]) (by
         show((h++_)[h.length+2]?).bind Bq=_
         rw[aC5 (by omega),aRR];rfl) rfl) Px)))) (by simp) (by omega) (.live 4 false false [[.int .i64 k,.int .i64 (j:Int),.int .i64 (if k=3 then p.test else if k=4 then p.change else 1),.slr 25 (h.length+2) 0 1]]) (m:=h.length+5) (n:=rows.length+1) (by simp) rfl
        rw[aOJ hL]at hsn
        simpa [up]using hsn
      ·have hgt:decide ((s.2:Int)>0)=true:=decide_eq_true (by omega)
       have hA2:=aKV hs hy hk4 false
       have hs2:(s.1.set j (Db k false y)).length=12:=by simpa using hs
       have e1:=Gh (s.1.set j (Db k false y))
       have e2:=Gi (s.1.set j (Db k false y))
       have e3:=am1 (s.1.set j (Db k false y))
       have e4:=Ou (s.1.set j (Db k false y))
       have e5:=aDT (s.1.set j (Db k false y))
       have e6:=aDI (s.1.set j (Db k false y))
       have e7:(Cf (s.1.set j (Db k false y))).length=24:=by rw[Bd];omega
       have e8:aqM 25 (Cf (s.1.set j (Db k false y)))=Cf (s.1.set j (Db k false y)):=aqT (by omega)
       have e9:∀z,aqM 24 (Cf (s.1.set j (Db k false y))++[z])=Cf (s.1.set j (Db k false y)):=fun z=>by rw[aC8 (by omega),aqT (by omega)]
       have e10:∀z,aNZ 25 (Cf (s.1.set j (Db k false y))++[z])=[]:=fun z=>aY5 (by simp;omega)
       have hwf:IntKind.i64.wrap ((s.2:Int)-1)=((s.2-1:Nat):Int):=by rw[It (by omega) (by omega)];omega
       obtain⟨s2,hs2e⟩:∃s2:St,(s.1.set j (Db k false y),s.2-1)=s2:=⟨_,rfl⟩
       have hst2:Cf (s.1.set j (Db k false y))++[AV.int .i64 ((s.2-1:Nat):Int)]=Bm s2:=by rw[←hs2e];rfl
       have d1:=Gf s2
       have d2:=Ff s2
       have d3:(Bm s2).length=25:=Hh (by rw[←hs2e];exact hs2)
       have d4:aqM 25 (Bm s2)=Bm s2:=aqT (by omega)
       (have hb:=trivial;with_reducible repeat' (first|simp only[hb,Vc.down,seval,aHB.down,g0,g3,g5,g6,g19,g20,g21,hdd,hww,hx,hB,hB2,hsl,hC,i12,hpz,hpz2,hp25,st2,st24,Gg,hlh,hlh2,Ai.cells,agX,hS,hap,hhp,f0,k0,v0,l0,r0,p0,n0,i0,hpl,hP,hA,f1,k1,p1,r1,n1,i1,hpl1,stf,q3,hgt,b1,b2,b3,hst1,c1,c2,c3,c4,aC6,hA2,e1,e2,e3,e4,e5,e6,e7,e8,e9,e10,hwf,hst2,d1,d2,d3,d4]|refine Av ?_ ?_<;>intro hb|((refine aFU (aFC (sf) ?_) ?_);(simp (discharger:=decide) only[aA0,am3,aN0,aOE,Nc,aA5,aA3,aBI,Lq,aeG,aHS,aJ1,hsf0,hsf1,hsf2];kernel_rfl);intro _)|refine fdq ?_|fail))
       have hto:toF s.1 s.2 k j y=[s1,s2]:=by
        unfold toF;rw[if_pos ⟨hk3,by omega⟩,hs1e,hs2e]
       refine Bh (kJ' _ _ () ⟨by simp[up,g0],by simp[up,g3],by simp[up,g6],by simp[up,g19],by simp[up,g20],by simp[up],?_,⟨x,?_⟩,rows++[[.int .i64 k,.int .i64 (j:Int),.int .i64 (if k=3 then p.test else if k=4 then p.change else 1),.slr 25 (h.length+5) 0 2]],Ro++[h.length+5],?_,by simp;omega⟩ rfl)
       ·exact kKl hK hL _
       ·rw[arR _ hHh fun a b r n e e2=>by have:=(hL.dov a b r n e).1;omega];exact hB
       ·have hQ:(aCU w N s i++aGO w N s k (j+1)).map Je.cells=(aCU w N s i++aGO w N s k j).map Je.cells++[[.int .i64 k,.int .i64 (j:Int),.int .i64 (if k=3 then p.test else if k=4 then p.change else 1),.imm 25 true [Bm s1,Bm s2]]]:=by
         rw[hnx,hto,←aP8,aQ4];rfl
        rw[hQ]
        have hsn:=hL.snoc (h':=h++[.live 9 true true [[.int .i64 p.one,.int .i64 p.other,.bool p.valve,.bool p.opn,.int .i64 p.tested,.int .i64 p.valid,.bool p.bad,.int .i64 p.test,.int .i64 p.change]],.live 2 true true [[.int .i64 k,.int .i64 (j:Int)]],.dead,.live 4 false true [[.int .i64 k,.int .i64 (j:Int),.int .i64 (if k=3 then p.test else if k=4 then p.change else 1),.slr 25 (h.length+5) 0 2]],.live 25 true false [Bm s2],.live 25 true false [Bm s1,Bm s2]]) (by simp) (fun b _ hb=>aJY hb) (r:=[.int .i64 k,.int .i64 (j:Int),.int .i64 (if k=3 then p.test else if k=4 then p.change else 1),.slr 25 (h.length+5) 0 2]) (Ey (aB7 ..) (Ey (aB7 ..) (Ey (aB7 ..) (Ey (aXD (rows:=[Bm s1,Bm s2]) (by
         show((h++_)[h.length+5]?).bind Bq=_
         rw[aC5 (by omega),aRR];rfl) rfl) Px)))) (by simp) (by omega) (.live 4 false false [[.int .i64 k,.int .i64 (j:Int),.int .i64 (if k=3 then p.test else if k=4 then p.change else 1),.slr 25 (h.length+5) 0 2]]) (m:=h.length+7) (n:=rows.length+1) (by simp) rfl
        rw[aOJ hL]at hsn
        simpa [up]using hsn
  ·exact⟨by simp[up,g0],by simp[up,g3],by simp[up,g6],by simp[up],by simp[up],by simp[up],hK,⟨x,hB⟩,rows,Ro,by simpa [up,aGO]using hL,by omega⟩
  obtain⟨rfl,g0,g3,g6,hK,hB,rows,Ro,hL,hrl⟩:=hk'
  (have hb:=trivial;with_reducible repeat' (first|simp only[hb,Vc.down,seval,aHB.down,g6,hwk]|refine Av ?_ ?_<;>intro hb|refine fd ?_|fail))
  exact Bh (kJ _ _ () ⟨by simp[up,g0],by simp[up,g3],by simp[up];omega,hK,hB,rows,Ro,by simp only[up];rw[aCU,hk];exact hL,by omega⟩ rfl)
 ·exact⟨by simp[up,Oc],by simp[up],by simp[up],Hv.app _ _,⟨_,by rw[aC5 (aC6 _),Nat.sub_self];rfl⟩,[],[],by simp only[up];exact LLG.none,aNV _⟩
 obtain⟨rfl,hK,rows,Ro,hL⟩:=hk
 obtain⟨ov,g5⟩:∃ov,t 5=ov:=⟨_,rfl⟩
 rw[g5]at hL
 rw[a5T]at hL
 obtain⟨R,r1,r2,_⟩:=hL.read
 (have hb:=trivial;with_reducible repeat' (first|simp only[hb,Vc.down,seval,aHB.down,g5]|refine Av ?_ ?_<;>intro hb|refine fd ?_|fail))
 exact⟨⟨ov,R,rfl,r1,fun b hb=>by have:=r2 b hb;omega⟩,hK⟩
theorem aPW(a b:Bool):Lu Tryz.prog .neq 4 (.bool a) (.bool b)=some (.bool (a !=b)):=by
 simp only[Lu,Jp,Tryz.underlying4,awX]
 cases a<;>cases b<;>rfl
theorem a6E{L:List (Int × Bool)}(hL:L.length=12)(x:Dq)(h0:0≤x.part)(h1:x.part<12):Ei.call (.fn 90) [.agg [.int .i64 x.part,.bool x.opn,.bool x.good],.ptr 0 0 0] [.live 24 true false [Cf L]]=some (.ret (.bool (!aPF L x)),[.live 24 true false [Cf L]]):=by
 obtain⟨i,hi⟩:∃i:Nat,x.part=(i:Int):=⟨x.part.toNat,by omega⟩
 obtain⟨y,hy⟩:∃y,L[i]?=some y:=⟨_,aC4 (by omega)⟩
 have i12:((i:Int)<12)=True:=eq_true (by omega)
 have hpz:(i*2≤23)=True:=eq_true (by omega)
 have hp24:(i*2+2≤24)=True:=eq_true (by omega)
 have hpl:(Cf L).length=24:=by rw[Bd];omega
 obtain⟨a,b⟩:=y
 have htk:=aDA L i a b hy
 have hm:aPF L x=(b==x.opn&&(!x.good||a==0)):=by
  unfold aPF
  rw[hi,show((i:Nat):Int).toNat=i from rfl,hy]
 rw[hm,hi]
 cases q1:(b==x.opn)with
 |false=>
  have q1':(b !=x.opn)=true:=by simp[bne,q1]
  (refine ce Tryz.func90 ?_;simp only[Tryz.f90];(have hb:=trivial;with_reducible repeat' (first|simp only[hb,Vc.down,seval,aZQ.down,aPW,q1',i12,hpz,hp24,hpl,htk,Gg]|refine Av ?_ ?_<;>intro hb|refine fd ?_|fail)))
 |true=>
  have q1':(b !=x.opn)=false:=by simp[bne,q1]
  cases q2:x.good with
  |false=>
   (refine ce Tryz.func90 ?_;simp only[Tryz.f90];(have hb:=trivial;with_reducible repeat' (first|simp only[hb,Vc.down,seval,aZQ.down,aPW,q1',q2,i12,hpz,hp24,hpl,htk,Gg]|refine Av ?_ ?_<;>intro hb|refine fd ?_|fail)))
  |true=>
   cases q3:(a==0)with
   |false=>
    have q3':(a !=0)=true:=by simp[bne,q3]
    (refine ce Tryz.func90 ?_;simp only[Tryz.f90];(have hb:=trivial;with_reducible repeat' (first|simp only[hb,Vc.down,seval,aZQ.down,aPW,q1',q2,q3,q3',i12,hpz,hp24,hpl,htk,Gg]|refine Av ?_ ?_<;>intro hb|refine fd ?_|fail)))
   |true=>
    have q3':(a !=0)=false:=by simp[bne,q3]
    (refine ce Tryz.func90 ?_;simp only[Tryz.f90];(have hb:=trivial;with_reducible repeat' (first|simp only[hb,Vc.down,seval,aZQ.down,aPW,q1',q2,q3,q3',i12,hpz,hp24,hpl,htk,Gg]|refine Av ?_ ?_<;>intro hb|refine fd ?_|fail)))
theorem aUG{l:List Dq}{nn:Bool}{g:Nat}{lq:List (Int × Bool)}{p:Dq→Bool}(hp:∀x∈l,Ei.call (.fn g) (.agg [.int .i64 x.part,.bool x.opn,.bool x.good]::[.ptr 0 0 0]) [.live 24 true false [Cf lq]]=some (.ret (.bool (p x)),[.live 24 true false [Cf lq]]))(hl:l.length≤maxLen):
 Ei.call (.fn 37) [Bo 3 true nn (l.map Dq.cells),.func (.func g) [] [.ptr 0 0 0]] [.live 24 true false [Cf lq]]=some (.ret (.int .i64 (idx p l 0)),[.live 24 true false [Cf lq]]):=by
 (refine ce Tryz.func37 ?_;simp only[Tryz.f37];(have hb:=trivial;with_reducible repeat' (first|simp only[hb,Vc.down,seval,aH3.down,agX]|refine Av ?_ ?_<;>intro hb|refine fd ?_|fail)))
 refine Hn (lst 19 l (fun i (s:Int) t h=>s=i∧h=[.live 24 true false [Cf lq]]∧t 0=Bo 3 true nn (l.map Dq.cells)∧t 1=.func (.func g) [] [.ptr 0 0 0]∧t 7=.int .i64 l.length∧t 8=.int .i64 i)
  (fun rest s=>idx p rest s) (fun r e t h=>h=[.live 24 true false [Cf lq]]∧((e=.exit 0∧r= -1)∨(e=.ret∧t 4=.int .i64 r))) ?_ ?_ 0 _ _ ?_) (fun e t h hk=>?_)
 ·rintro s t h Q' kQ ⟨rfl,rfl,h0,h1,h7,h8⟩
  (have hb:=trivial;with_reducible repeat' (first|simp only[hb,Vc.down,seval,aH3.down,h0,h1,h7,h8,aEY,decide_false]|refine Av ?_ ?_<;>intro hb|refine fd ?_|fail))
  exact kQ _ _ _ ⟨rfl,.inl ⟨rfl,rfl⟩⟩
 ·rintro x rest i s t h J Q' kJ kQ hx hi ⟨rfl,rfl,h0,h1,h7,h8⟩
  have hpx:=hp x (aAR hx)
  have hd:decide ((i:Int)<(l.length:Int))=true:=by simpa using hi
  (have hb:=trivial;with_reducible repeat' (first|simp only[hb,Vc.down,seval,aH3.down,h0,h1,h7,h8,hd,hx,Dq.cells,hpx,Ci hi hl]|refine Av ?_ ?_<;>intro hb|refine fd ?_|fail))
  ·exact kQ _ _ _ ⟨rfl,.inr ⟨rfl,by simp[up,idx,hb]⟩⟩
  ·exact Bh (kJ _ _ (i+1) ⟨by simp,rfl,by simp[up,h0],by simp[up,h1],by simp[up,h7],by simp[up]⟩ (by simp[idx,hb]))
 ·exact⟨rfl,rfl,by simp[up,Oc],by simp[up,Oc],by simp[up],by simp[up]⟩
 ·obtain⟨rfl,⟨rfl,hi⟩|⟨rfl,hi⟩⟩:=hk
  ·(have hb:=trivial;with_reducible repeat' (first|simp only[hb,Vc.down,seval,aH3.down]|refine Av ?_ ?_<;>intro hb|refine fd ?_|fail))
   rw[hi]
  ·(have hb:=trivial;with_reducible repeat' (first|simp only[hb,Vc.down,seval,aH3.down,hi]|refine Av ?_ ?_<;>intro hb|refine fd ?_|fail))
theorem aRN{l:List Dq}{nn:Bool}{g:Nat}{lq:List (Int × Bool)}{p:Dq→Bool}(hp:∀x∈l,Ei.call (.fn g) (.agg [.int .i64 x.part,.bool x.opn,.bool x.good]::[.ptr 0 0 0]) [.live 24 true false [Cf lq]]=some (.ret (.bool (p x)),[.live 24 true false [Cf lq]]))(hl:l.length≤maxLen):
 Ei.call (.fn 89) [Bo 3 true nn (l.map Dq.cells),.func (.func g) [] [.ptr 0 0 0]] [.live 24 true false [Cf lq]]=some (.ret (.bool (l.any p)),[.live 24 true false [Cf lq]]):=by
 (refine ce Tryz.func89 ?_;simp only[Tryz.f89];(have hb:=trivial;with_reducible repeat' (first|simp only[hb,Vc.down,seval,aUG hp hl,aJ7 p l 0 (Int.le_refl 0)]|refine Av ?_ ?_<;>intro hb|refine fd ?_|fail)))
theorem a8Z{L:List (Int × Bool)}(hL:L.length=12)(l:List Dq)(nn:Bool)(hl:l.length≤maxLen)(h:∀x∈l,0≤x.part∧x.part<12):Ei.call (.fn 66) [.agg (Cf L),Bo 3 true nn (l.map Dq.cells)] []=some (.ret (.bool (aJX L l)),[]):=by
 have hcM:=aRN (lq:=L) (l:=l) (nn:=nn) (g:=90) (p:=fun x=> !aPF L x) (fun x hx=>a6E hL x (h x hx).1 (h x hx).2) hl
 have hpl:(Cf L).length=24:=by rw[Bd];omega
 have hf1:=Gh L
 have hf2:=Gi L
 have htk:=aqT (l:=Cf L) (i:=24) (by omega)
 have q1:aJX L l= !(l.any fun x=> !aPF L x):=List.all_eq_not_any_not
 rw[q1]
 generalize(l.any fun x=> !aPF L x)=c4 at *
 (refine ce Tryz.func66 ?_;simp only[Tryz.f66];(have hb:=trivial;with_reducible repeat' (first|simp only[hb,Vc.down,seval,hcM,hpl,hf1,hf2,htk,agX]|refine Av ?_ ?_<;>intro hb|refine fd ?_|fail)))
def Eu(n:Int):Option Dq→List Dq→Bool
 |_,[]=>true
 |none,x::l=>Jd x.part 0 n&&Eu n (some x) l
 |some y,x::l=>Jd x.part 0 n&& !decide (x.part≤y.part)&&Eu n (some x) l
def Ny(w:Am)(l:List Dq):Bool:=Eu (IntKind.i64.wrap ((w.parts.length:Int)-1)) none l
theorem aYV(w:Am)(l:List Dq)(nn:Bool)(hl:l.length≤maxLen):Ei.call (.fn 35) [.agg [.int .i64 w.rooms,.int .i64 w.need,Bo 9 true w.nn (w.parts.map Ai.cells)],Bo 3 true nn (l.map Dq.cells)] []=some (.ret (.bool (Ny w l)),[]):=by
 obtain⟨ans,hans⟩:∃a,Ny w l=a:=⟨_,rfl⟩
 rw[hans]
 unfold Ny at hans
 generalize hn:IntKind.i64.wrap ((w.parts.length:Int)-1)=n at *
 refine ce Tryz.func35 ?_
 simp only[Tryz.f35]
 (have hb:=trivial;with_reducible repeat' (first|simp only[hb,Vc.down,seval,aMS.down,agX]|refine Av ?_ ?_<;>intro hb|refine fd ?_|fail))
 refine Hn (lst 38 l (fun i (y:Option Dq) t h=>t 1=Bo 3 true nn (l.map Dq.cells)∧t 2=.ptr 0 0 0∧t 7=Bo 3 true nn (l.map Dq.cells)∧t 8=.int .i64 (l.length:Nat)∧t 9=.int .i64 (i:Int)∧(∃fl x,h[0]?=some (.live 3 fl x [[.int .i64 w.rooms,.int .i64 w.need,Bo 9 true w.nn (w.parts.map Ai.cells)]]))∧((i=0∧y=none)∨∃z j,i=j+1∧l[j]?=some z∧y=some z)) (fun rest y=>Eu n y rest)
  (fun r e t h=>(e=.exit 0∧r=true)∨(e=.ret∧r=false∧t 4=.bool false)) ?_ ?_ none _ _ ?_) (fun e t h hk=>?_)
 ·rintro y t h Q' kQ ⟨g1,g2,g7,g8,g9,hB,hy⟩
  (have hb:=trivial;with_reducible repeat' (first|simp only[hb,Vc.down,seval,aMS.down,g8,g9,aEY,decide_false]|refine Av ?_ ?_<;>intro hb|refine fd ?_|fail))
  exact kQ _ _ _ (.inl ⟨rfl,by cases y<;>rfl⟩)
 ·rintro x rest i y t h J Q' kJ kQ hx hi ⟨g1,g2,g7,g8,g9,⟨fl,xx,hB⟩,hy⟩
  have hdd:decide ((i:Int)<(l.length:Int))=true:=decide_eq_true (by omega)
  have hww:=Ci hi hl
  have hB2:=Ah hB
  have hI:=aET x.part 0 n
  have hxw:(l.map Dq.cells)[i]?=some x.cells:=by rw[aRS,hx];rfl
  cases c1:Jd x.part 0 n with
  |false=>
   rw[c1]at hI
   have hf:Eu n y (x::rest)=false:=by cases y<;>simp[Eu,c1]
   (have hb:=trivial;with_reducible repeat' (first|simp only[hb,Vc.down,seval,aMS.down,g1,g2,g7,g8,g9,hdd,hww,hx,hB,hB2,hn,hI,Dq.cells,agX]|refine Av ?_ ?_<;>intro hb|refine fd ?_|fail))
   exact kQ _ _ _ (.inr ⟨rfl,hf,by simp[up]⟩)
  |true=>
   rw[c1]at hI
   rcases hy with⟨rfl,rfl⟩|⟨z,j,rfl,hz,rfl⟩
   ·have h00:decide ((0:Int)>0)=false:=rfl
    simp only[aY6]at hdd g9
    have hf:Eu n none (x::rest)=Eu n (some x) rest:=by simp[Eu,c1]
    (have hb:=trivial;with_reducible repeat' (first|simp only[hb,Vc.down,seval,aMS.down,g1,g2,g7,g8,g9,hdd,hww,hx,hB,hB2,hn,hI,h00,Dq.cells,agX]|refine Av ?_ ?_<;>intro hb|refine fd ?_|fail))
    exact Bh (kJ _ _ (some x) ⟨by simp[up,g1],by simp[up,g2],by simp[up,g7],by simp[up,g8],by simp[up],⟨fl,xx,hB2 _⟩,.inr ⟨x,0,rfl,hx,rfl⟩⟩ hf.symm)
   ·have h00:decide (((j+1:Nat):Int)>0)=true:=decide_eq_true (by omega)
    have hw1:IntKind.i64.wrap (((j+1:Nat):Int)-1)=(j:Int):=by rw[It (by unfold maxLen at hl;omega) (by unfold maxLen at hl;omega)];omega
    have hjl:((j:Int)<(l.length:Int))=True:=eq_true (by omega)
    cases c2:decide (x.part≤z.part)with
    |false=>
     have hf:Eu n (some z) (x::rest)=Eu n (some x) rest:=by simp only[Eu,c1,c2];rfl
     (have hb:=trivial;with_reducible repeat' (first|simp only[hb,Vc.down,seval,aMS.down,g1,g2,g7,g8,g9,hdd,hww,hx,hz,hB,hB2,hn,hI,h00,hw1,hjl,c2,Dq.cells,agX]|refine Av ?_ ?_<;>intro hb|refine fd ?_|fail))
     exact Bh (kJ _ _ (some x) ⟨by simp[up,g1],by simp[up,g2],by simp[up,g7],by simp[up,g8],by simp[up];omega,⟨fl,xx,hB2 _⟩,.inr ⟨x,j+1,rfl,hx,rfl⟩⟩ hf.symm)
    |true=>
     have hf:Eu n (some z) (x::rest)=false:=by simp only[Eu,c1,c2];rfl
     (have hb:=trivial;with_reducible repeat' (first|simp only[hb,Vc.down,seval,aMS.down,g1,g2,g7,g8,g9,hdd,hww,hx,hz,hB,hB2,hn,hI,h00,hw1,hjl,c2,Dq.cells,agX]|refine Av ?_ ?_<;>intro hb|refine fd ?_|fail))
     exact kQ _ _ _ (.inr ⟨rfl,hf,by simp[up]⟩)
 ·exact⟨by simp[up,Oc],by simp[up],by simp[up],by simp[up],by simp[up],⟨_,_,rfl⟩,.inl ⟨rfl,rfl⟩⟩
 rw[hans]at hk
 rcases hk with⟨rfl,rfl⟩|⟨rfl,rfl,g4⟩
 ·(have hb:=trivial;with_reducible repeat' (first|simp only[hb,Vc.down,seval,aMS.down]|refine Av ?_ ?_<;>intro hb|refine fd ?_|fail))
 ·(have hb:=trivial;with_reducible repeat' (first|simp only[hb,Vc.down,seval,aMS.down,g4]|refine Av ?_ ?_<;>intro hb|refine fd ?_|fail))
theorem a4B(w:Am)(i:Int):Ei.call (.fn 19) [.agg [.int .i64 w.rooms,.int .i64 w.need,Bo 9 true w.nn (w.parts.map Ai.cells)],.int .i64 i] []=some (.ret (.bool (Jd i 0 (IntKind.i64.wrap ((w.parts.length:Int)-1)))),[]):=by
 have h:=aKH i 0 (IntKind.i64.wrap ((w.parts.length:Int)-1))
 (refine ce Tryz.func19 ?_;simp only[Tryz.f19];(have hb:=trivial;with_reducible repeat' (first|simp only[hb,Vc.down,seval,bcR.down,h,agX]|refine Av ?_ ?_<;>intro hb|refine fd ?_|fail)))
theorem a0M{w:Am}{N:Nat}(hw:WOk w N){L:List (Int × Bool)}{i:Nat}{x y:Int × Bool}(hi:i<L.length)(hxy:tgB x=true→tgB y=true):nmB w N (L.set i x)≤nmB w N (L.set i y):=by
 have n2:=hw.n2
 have n8:=hw.n8
 have get:∀(z:Int × Bool) (j:Nat),(edg w (tgt (L.set i z)))[j]?=(w.parts[j]?).bind fun p=>(L[j]?).map fun u=>(p.one.toNat,p.other.toNat,if tgB (if i=j then z else u)=true then 1 else 0):=fun z j=>by
  unfold edg tgt
  rw[List.getElem?_zipWith,aRS]
  by_cases e:i=j
  ·subst e
   rw[List.getElem?_set_self hi,aC4 hi]
   cases w.parts[i]?<;>simp
  ·rw[List.getElem?_set_ne e]
   cases w.parts[j]? with
   |none=>rfl
   |some p=>cases L[j]?<;>simp[e]
 refine aUC n2 (by omega) (aFN hw _) (aFN hw _) (fun a b c' hc=>?_) (fun a b c hc=>?_)
 ·obtain⟨j,hj⟩:=aNU hc
  rw[get]at hj
  obtain⟨p,h1,hj⟩:=aY7.1 hj
  obtain⟨u,h2,hj⟩:=aY8.1 hj
  refine⟨if tgB (if i=j then x else u)=true then 1 else 0,aAR (i:=j) ?_,?_⟩
  ·rw[get,h1,h2]
   simp only[ao8,awX,aM7.injEq,Prod.mk.injEq]at hj ⊢
   exact⟨hj.1,hj.2.1,trivial⟩
  ·simp only[Prod.mk.injEq]at hj
   rw[←hj.2.2]
   by_cases e:i=j
   ·rw[if_pos e,if_pos e]
    by_cases t:tgB x=true
    ·rw[if_pos t,if_pos (hxy t)];exact aC6 _
    ·rw[if_neg t];exact aNV _
   ·rw[if_neg e,if_neg e];exact aC6 _
 ·obtain⟨j,hj⟩:=aNU hc
  rw[get]at hj
  obtain⟨p,h1,hj⟩:=aY7.1 hj
  obtain⟨u,h2,hj⟩:=aY8.1 hj
  refine⟨if tgB (if i=j then y else u)=true then 1 else 0,aAR (i:=j) ?_⟩
  rw[get,h1,h2]
  simp only[ao8,awX,aM7.injEq,Prod.mk.injEq]at hj ⊢
  exact⟨hj.1,hj.2.1,trivial⟩
theorem a1I{w:Am}(h:Hz w=true){i:Nat}{p:Ai}(hp:w.parts[i]?=some p):aaH w.rooms p=true:=by
 simp only[Hz,aR1,aM0]at h
 exact h.2 p (aAR hp)
theorem aY0(w:Am)(N:Nat)(L:List (Int × Bool)):Oo w N L≤(nmB w N L:Int)∧Oo w N L≤w.need:=by
 unfold Oo
 split<;>omega
def cod(L:List (Int × Bool)):Nat:=L.foldr (fun x a=>2*x.1.toNat+x.2.toNat+6*a) 0
theorem aHG(x:Int × Bool)(L:List (Int × Bool)):cod (x::L)=2*x.1.toNat+x.2.toNat+6*cod L:=rfl
theorem aV7(b:Bool):b.toNat≤1:=by cases b<;>decide
theorem a7C:∀a b:Bool,a.toNat=b.toNat→a=b:=by decide
theorem aU4:∀{L:List (Int × Bool)},(∀x∈L,0≤x.1∧x.1≤2)→cod L<6 ^ L.length
 | [],_=>by decide
 |x::L,h=>by
  have ih:=aU4 (L:=L) fun y hy=>h y (by simp[hy])
  have hx:=h x (by simp)
  have hb:=aV7 x.2
  rw[aHG,aHS,Nat.pow_succ]
  omega
theorem aQ9:∀{L M:List (Int × Bool)},L.length=M.length→(∀x∈L,0≤x.1∧x.1≤2)→(∀x∈M,0≤x.1∧x.1≤2)→cod L=cod M→L=M
 | [],[],_,_,_,_=>rfl
 | [],_::_,h,_,_,_=>by simp at h
 |_::_,[],h,_,_,_=>by simp at h
 |x::L,y::M,hl,h1,h2,e=>by
  rw[aHG,aHG]at e
  have hx:=h1 x (by simp)
  have hy:=h2 y (by simp)
  have bx:=aV7 x.2
  have by':=aV7 y.2
  have e1:x.1=y.1:=by omega
  have e2:x.2=y.2:=a7C _ _ (by omega)
  have e3:cod L=cod M:=by omega
  have e4:=aQ9 (L:=L) (M:=M) (by simpa using hl) (fun z hz=>h1 z (by simp[hz])) (fun z hz=>h2 z (by simp[hz])) e3
  rw[e4,show x=y from Prod.ext e1 e2]
structure InU(n:Nat)(s0 s:St):Prop where
 l12:s.1.length=12
 dg:∀x∈s.1,0≤x.1∧x.1≤2
 tl:s.1.drop n=s0.1.drop n
 fl:s.2≤s0.2
theorem aJC{n:Nat}{s0:St}(hn:n≤6)(h3:s0.2≤3)(L:List St)(hd:L.Nodup)(h:∀s∈L,InU n s0 s):L.length≤186624:=by
 have hpow:6 ^ n≤46656:=Nat.le_trans (Nat.pow_le_pow_right (by decide) hn) (by decide)
 have tk:∀s∈L,(s.1.take n).length=n∧∀x∈s.1.take n,0≤x.1∧x.1≤2:=fun s hs=>⟨by rw[List.length_take,(h s hs).l12];omega,fun x hx=>(h s hs).dg x (List.mem_of_mem_take hx)⟩
 have inj:(L.map fun s=>cod (s.1.take n)*4+s.2).Nodup:=by
  rw[List.nodup_iff_pairwise_ne,List.pairwise_map]
  refine List.Pairwise.imp_of_mem (R:=fun a b=>a≠b) ?_ hd
  intro a b ha hb hab e
  have e:cod (a.1.take n)*4+a.2=cod (b.1.take n)*4+b.2:=e
  have fa:=(h a ha).fl
  have fb:=(h b hb).fl
  have e1:cod (a.1.take n)=cod (b.1.take n):=by omega
  have e2:a.2=b.2:=by omega
  have e3:=aQ9 ((tk a ha).1.trans (tk b hb).1.symm) (tk a ha).2 (tk b hb).2 e1
  have e4:a.1=b.1:=by rw[←aY9 n a.1,←aY9 n b.1,e3,(h a ha).tl,(h b hb).tl]
  exact hab (Prod.ext e4 e2)
 have:=Snake.nodup_sub (m:=aLK 186624) inj fun x hx=>by
  obtain⟨s,hs,rfl⟩:=List.mem_map.1 hx
  have:=aU4 (tk s hs).2
  rw[(tk s hs).1]at this
  have hf:=(h s hs).fl
  rw[aE6]
  show cod (s.1.take n)*4+s.2<186624
  omega
 rw[agX,List.length_range]at this
 exact this
theorem aQ7{n:Nat}{s0 s:St}(h:InU n s0 s){i:Nat}(hi:i<n){y:Int × Bool}(hy:0≤y.1∧y.1≤2){f:Nat}(hf:f≤s.2):InU n s0 (s.1.set i y,f):=
 ⟨by simpa using h.l12,fun x hx=>by
   rcases List.mem_or_eq_of_mem_set hx with hx|rfl
   ·exact h.dg x hx
   ·exact hy,by rw[List.drop_set_of_lt hi];exact h.tl,Nat.le_trans hf h.fl⟩
structure aQ2(w:Am)(N:Nat)(s:St)(o:Je)(p:Ai)(x:Int × Bool):Prop where
 k4:o.k=1∨o.k=2∨o.k=3∨o.k=4
 hp:w.parts[o.i]?=some p
 hx:s.1[o.i]?=some x
 can:aO2 p x o.k=true
 safe:aD7 w N s.1 o.k o.i true x=true
 c:o.c=aOX p o.k
 to:o.to=toF s.1 s.2 o.k o.i x
theorem aME{w:Am}{N:Nat}{s:St}{k:Int}(hk:k=1∨k=2∨k=3∨k=4){i:Nat}{o:Je}:aJ3 w N s k i=some o↔o.k=k∧o.i=i∧∃p x,aQ2 w N s o p x:=by
 constructor
 ·intro h
  unfold aJ3 at h
  cases hp:w.parts[i]? with
  |none=>rw[hp]at h;cases h
  |some p=>
   cases hx:s.1[i]? with
   |none=>rw[hp,hx]at h;cases h
   |some x=>
    rw[hp,hx]at h
    simp only at h
    split at h
    ·rename_i hc
     simp only[aR1]at hc
     cases h
     exact⟨rfl,rfl,p,x,hk,hp,hx,hc.1,hc.2,rfl,rfl⟩
    ·cases h
 ·rintro⟨rfl,rfl,p,x,I⟩
  unfold aJ3
  rw[I.hp,I.hx]
  simp only[I.can,I.safe,Bool.and_self,if_true]
  obtain⟨k,i,c,to⟩:=o
  have h1:=I.c
  have h2:=I.to
  simp only at h1 h2
  rw[h1,h2]
theorem aCZ{w:Am}{N:Nat}{s:St}{k:Int}(hk:k=1∨k=2∨k=3∨k=4){o:Je}:o∈aHZ w N s k↔o.k=k∧∃p x,aQ2 w N s o p x:=by
 unfold aHZ
 rw[List.mem_filterMap]
 constructor
 ·rintro⟨i,_,h⟩
  obtain⟨h1,_,h3⟩:=(aME hk).1 h
  exact⟨h1,h3⟩
 ·rintro⟨h1,p,x,I⟩
  exact⟨o.i,aE6.2 (aZA.1 I.hp).1,(aME hk).2 ⟨h1,rfl,p,x,I⟩⟩
theorem awQ{w:Am}{N:Nat}{s:St}{o:Je}:o∈Dj w N s↔∃p x,aQ2 w N s o p x:=by
 unfold Dj
 simp only[aNT,aCZ (k:=1) (by simp),aCZ (k:=2) (by simp),aCZ (k:=3) (by simp),aCZ (k:=4) (by simp)]
 constructor
 ·rintro(⟨_,h⟩|⟨_,h⟩|⟨_,h⟩|⟨_,h⟩)<;>exact h
 ·rintro⟨p,x,I⟩
  rcases I.k4 with e|e|e|e
  ·exact .inl ⟨e,p,x,I⟩
  ·exact .inr (.inl ⟨e,p,x,I⟩)
  ·exact .inr (.inr (.inl ⟨e,p,x,I⟩))
  ·exact .inr (.inr (.inr ⟨e,p,x,I⟩))
theorem aI1{w:Am}(h:Hz w=true){i:Nat}{p:Ai}(hp:w.parts[i]?=some p)(k:Int):1≤aOX p k∧aOX p k≤1000:=by
 have h:=a1I h hp
 simp only[aaH,Jd,aR1,decide_eq_true_eq]at h
 obtain⟨⟨_,a7⟩,a8⟩:=h
 unfold aOX
 split
 ·exact a7
 ·split
  ·exact a8
  ·decide
theorem aYF{k:Int}{b:Bool}{x:Int × Bool}(h:0≤x.1∧x.1≤2):0≤(Db k b x).1∧(Db k b x).1≤2:=by
 unfold Db
 split
 ·exact h
 ·split
  ·exact h
  ·split
   ·split<;>exact⟨by simp,by simp⟩
   ·exact⟨by simp,by simp⟩
theorem a2D(L:List (Int × Bool))(f:Nat)(k:Int)(i:Nat)(x:Int × Bool):toF L f k i x≠[]∧(toF L f k i x).length≤2:=by
 unfold toF;split<;>simp
theorem Ob{L:List (Int × Bool)}{f:Nat}{k:Int}{i:Nat}{x:Int × Bool}{s:St}:s∈toF L f k i x↔s=(L.set i (Db k true x),f)∨(k=3∧0<f∧s=(L.set i (Db k false x),f-1)):=by
 unfold toF
 split
 ·rename_i h;simp[h.1,h.2]
 ·rename_i h
  rw[List.mem_singleton]
  constructor
  ·exact .inl
  ·rintro(h'|⟨a,b,_⟩)
   ·exact h'
   ·exact absurd ⟨a,b⟩ h
theorem aPI{w:Am}{N:Nat}(hb:Hz w=true){s0 s:St}(h:InU w.parts.length s0 s){o:Je}(ho:o∈Dj w N s):1≤o.c∧o.c≤1000∧o.to≠[]∧o.to.length≤2∧∀x∈o.to,InU w.parts.length s0 x:=by
 obtain⟨p,x,I⟩:=awQ.1 ho
 have hv:=aI1 hb I.hp o.k
 have hl:=a2D s.1 s.2 o.k o.i x
 have hil:=(aZA.1 I.hp).1
 have hxd:=h.dg x (aAR I.hx)
 refine⟨by rw[I.c];exact hv.1,by rw[I.c];exact hv.2,by rw[I.to];exact hl.1,by rw[I.to];exact hl.2,fun y hy=>?_⟩
 rw[I.to]at hy
 rcases Ob.1 hy with rfl|⟨_,_,rfl⟩
 ·exact aQ7 h hil (aYF hxd) (aC6 _)
 ·exact aQ7 h hil (aYF hxd) (Nat.sub_le _ _)
theorem a6O(w:Am)(l:List Dq)(nn:Bool)(hl:l.length≤maxLen):Ei.call (.fn 33) [.agg [.int .i64 w.rooms,.int .i64 w.need,Bo 9 true w.nn (w.parts.map Ai.cells)],Bo 3 true nn (l.map Dq.cells)] []=some (.ret (.bool (Ny w l)),[]):=by
 obtain⟨ans,hans⟩:∃a,Ny w l=a:=⟨_,rfl⟩
 rw[hans]
 unfold Ny at hans
 have hI:=a4B w
 generalize hn:IntKind.i64.wrap ((w.parts.length:Int)-1)=n at *
 refine ce Tryz.func33 ?_
 simp only[Tryz.f33]
 (have hb:=trivial;with_reducible repeat' (first|simp only[hb,Vc.down,seval,aMG.down,agX]|refine Av ?_ ?_<;>intro hb|refine fd ?_|fail))
 refine Hn (lst 38 l (fun i (y:Option Dq) t h=>t 1=Bo 3 true nn (l.map Dq.cells)∧t 2=.ptr 0 0 0∧t 5=.int .i64 (i:Int)∧(∃fl x,h[0]?=some (.live 3 fl x [[.int .i64 w.rooms,.int .i64 w.need,Bo 9 true w.nn (w.parts.map Ai.cells)]]))∧((i=0∧y=none)∨∃z j,i=j+1∧l[j]?=some z∧y=some z)) (fun rest y=>Eu n y rest)
  (fun r e t h=>(e=.exit 0∧r=true)∨(e=.ret∧r=false∧t 4=.bool false)) ?_ ?_ none _ _ ?_) (fun e t h hk=>?_)
 ·rintro y t h Q' kQ ⟨g1,g2,g5,hB,hy⟩
  (have hb:=trivial;with_reducible repeat' (first|simp only[hb,Vc.down,seval,aMG.down,g1,g5,aEY,decide_false,agX]|refine Av ?_ ?_<;>intro hb|refine fd ?_|fail))
  exact kQ _ _ _ (.inl ⟨rfl,by cases y<;>rfl⟩)
 ·rintro x rest i y t h J Q' kJ kQ hx hi ⟨g1,g2,g5,⟨fl,xx,hB⟩,hy⟩
  have hdd:decide ((i:Int)<(l.length:Int))=true:=decide_eq_true (by omega)
  have hii:((i:Int)<(l.length:Int))=True:=eq_true (by omega)
  have hww:=Ci hi hl
  have hB2:=Ah hB
  replace hI:=hI x.part
  have hxw:(l.map Dq.cells)[i]?=some x.cells:=by rw[aRS,hx];rfl
  cases c1:Jd x.part 0 n with
  |false=>
   rw[c1]at hI
   have hf:Eu n y (x::rest)=false:=by cases y<;>simp[Eu,c1]
   (have hb:=trivial;with_reducible repeat' (first|simp only[hb,Vc.down,seval,aMG.down,g1,g2,g5,hdd,hii,hww,hx,hB,hB2,hn,hI,Dq.cells,agX]|refine Av ?_ ?_<;>intro hb|refine fd ?_|fail))
   exact kQ _ _ _ (.inr ⟨rfl,hf,by simp[up]⟩)
  |true=>
   rw[c1]at hI
   rcases hy with⟨rfl,rfl⟩|⟨z,j,rfl,hz,rfl⟩
   ·have h00:decide ((0:Int)>0)=false:=rfl
    have h01:decide ((0:Int)<0)=false:=rfl
    simp only[aY6]at hdd hii g5
    have hf:Eu n none (x::rest)=Eu n (some x) rest:=by simp[Eu,c1]
    (have hb:=trivial;with_reducible repeat' (first|simp only[hb,Vc.down,seval,aMG.down,g1,g2,g5,hdd,hii,hww,hx,hB,hB2,hn,hI,h00,h01,Dq.cells,agX]|refine Av ?_ ?_<;>intro hb|refine fd ?_|fail))
    exact Bh (kJ _ _ (some x) ⟨by simp[up,g1],by simp[up,g2],by simp[up],⟨fl,xx,hB⟩,.inr ⟨x,0,rfl,hx,rfl⟩⟩ hf.symm)
   ·have h00:decide (((j+1:Nat):Int)>0)=true:=decide_eq_true (by omega)
    have h01:decide ((0:Int)<((j+1:Nat):Int))=true:=decide_eq_true (by omega)
    have hw1:IntKind.i64.wrap (((j+1:Nat):Int)-1)=(j:Int):=by rw[It (by unfold maxLen at hl;omega) (by unfold maxLen at hl;omega)];omega
    have hjl:((j:Int)<(l.length:Int))=True:=eq_true (by omega)
    cases c2:decide (x.part≤z.part)with
    |false=>
     have hf:Eu n (some z) (x::rest)=Eu n (some x) rest:=by simp only[Eu,c1,c2];rfl
     (have hb:=trivial;with_reducible repeat' (first|simp only[hb,Vc.down,seval,aMG.down,g1,g2,g5,hdd,hii,hww,hx,hz,hB,hB2,hn,hI,h00,h01,hw1,hjl,c2,Dq.cells,agX]|refine Av ?_ ?_<;>intro hb|refine fd ?_|fail))
     exact Bh (kJ _ _ (some x) ⟨by simp[up,g1],by simp[up,g2],by simp[up];omega,⟨fl,xx,hB⟩,.inr ⟨x,j+1,rfl,hx,rfl⟩⟩ hf.symm)
    |true=>
     have hf:Eu n (some z) (x::rest)=false:=by simp only[Eu,c1,c2];rfl
     (have hb:=trivial;with_reducible repeat' (first|simp only[hb,Vc.down,seval,aMG.down,g1,g2,g5,hdd,hii,hww,hx,hz,hB,hB2,hn,hI,h00,h01,hw1,hjl,c2,Dq.cells,agX]|refine Av ?_ ?_<;>intro hb|refine fd ?_|fail))
     exact kQ _ _ _ (.inr ⟨rfl,hf,by simp[up]⟩)
 ·exact⟨by simp[up,Oc],by simp[up],by simp[up],⟨_,_,rfl⟩,.inl ⟨rfl,rfl⟩⟩
 rw[hans]at hk
 rcases hk with⟨rfl,rfl⟩|⟨rfl,rfl,g4⟩
 ·(have hb:=trivial;with_reducible repeat' (first|simp only[hb,Vc.down,seval,aMG.down]|refine Av ?_ ?_<;>intro hb|refine fd ?_|fail))
 ·(have hb:=trivial;with_reducible repeat' (first|simp only[hb,Vc.down,seval,aMG.down,g4]|refine Av ?_ ?_<;>intro hb|refine fd ?_|fail))
def Ky(w:Am)(d:Int)(l:List Dq)(f:Int):Int:=if decide ((w.parts.length:Int)>6)=true then 3 else if(!Hz w|| !aDP d|| !Ny w l||decide (f<0)||decide (f>3))=true then 2 else 0
theorem aRZ(w:Am)(hs:w.small)(d:Int)(l:List Dq)(nn:Bool)(hl:l.length≤maxLen)(f:Int):Ei.call (.fn 11) [.agg [.int .i64 w.rooms,.int .i64 w.need,Bo 9 true w.nn (w.parts.map Ai.cells)],.int .i64 d,Bo 3 true nn (l.map Dq.cells),.int .i64 f] []=some (.ret (.int .i64 (Ky w d l f)),[]):=by
 have h1:=a4F w hs
 have h2:=aYR d
 have h3:=a6O w l nn hl
 unfold Ky
 cases c0:decide ((w.parts.length:Int)>6)with
 |true=>
  rw[if_pos rfl]
  (refine ce Tryz.func11 ?_;simp only[Tryz.f11];(have hb:=trivial;with_reducible repeat' (first|simp only[hb,Vc.down,seval,aN1.down,c0,agX]|refine Av ?_ ?_<;>intro hb|refine fd ?_|fail)))
 |false=>
  rw[if_neg (by simp)]
  generalize Hz w=b1 at *
  generalize aDP d=b2 at *
  generalize Ny w l=b3 at *
  cases b1 with
  |false=>
   rw[if_pos (by simp)]
   (refine ce Tryz.func11 ?_;simp only[Tryz.f11];(have hb:=trivial;with_reducible repeat' (first|simp only[hb,Vc.down,seval,aN1.down,c0,h1,agX]|refine Av ?_ ?_<;>intro hb|refine fd ?_|fail)))
  |true=>
   cases b2 with
   |false=>
    rw[if_pos (by simp)]
    (refine ce Tryz.func11 ?_;simp only[Tryz.f11];(have hb:=trivial;with_reducible repeat' (first|simp only[hb,Vc.down,seval,aN1.down,c0,h1,h2,agX]|refine Av ?_ ?_<;>intro hb|refine fd ?_|fail)))
   |true=>
    cases b3 with
    |false=>
     rw[if_pos (by simp)]
     (refine ce Tryz.func11 ?_;simp only[Tryz.f11];(have hb:=trivial;with_reducible repeat' (first|simp only[hb,Vc.down,seval,aN1.down,c0,h1,h2,h3,agX]|refine Av ?_ ?_<;>intro hb|refine fd ?_|fail)))
    |true=>
     cases b4:decide (f<0)with
     |true=>
      rw[if_pos (by simp)]
      (refine ce Tryz.func11 ?_;simp only[Tryz.f11];(have hb:=trivial;with_reducible repeat' (first|simp only[hb,Vc.down,seval,aN1.down,c0,h1,h2,h3,b4,agX]|refine Av ?_ ?_<;>intro hb|refine fd ?_|fail)))
     |false=>
      cases b5:decide (f>3)with
      |true=>
       rw[if_pos (by simp)]
       (refine ce Tryz.func11 ?_;simp only[Tryz.f11];(have hb:=trivial;with_reducible repeat' (first|simp only[hb,Vc.down,seval,aN1.down,c0,h1,h2,h3,b4,b5,agX]|refine Av ?_ ?_<;>intro hb|refine fd ?_|fail)))
      |false=>
       rw[if_neg (by simp)]
       (refine ce Tryz.func11 ?_;simp only[Tryz.f11];(have hb:=trivial;with_reducible repeat' (first|simp only[hb,Vc.down,seval,aN1.down,c0,h1,h2,h3,b4,b5,agX]|refine Av ?_ ?_<;>intro hb|refine fd ?_|fail)))
end Go.Proofs.YtcncggaobhbomaaGreatDoor
