/- The functions of the layer, walked. -/
import Derived.Test.YtfkokgjfpojeoaaPartAF
open List renaming length_map→acE,map_cons→adD,length_cons→ahZ,map_append→ah3,length_append→aiC,take_add_one→aiH,length_zip→aiK,range→al2,length_range→al3,getElem?_append_left→al4,take_length→al5,map_nil→al6,length_nil→al7,length_set→al9,map→amP,flatMap_cons→anC,getElem?_range→anF,getElem?_append_right→an5,mem_map→ao3,length_take→apC,getElem?_map→apH,getElem?_set_ne→apN,zip_cons_cons→ap9,mem_of_getElem?→asS,getElem?_cons_zero→as6,append_assoc→atA,getElem?_eq_getElem→atB,getElem?_set_self→atX,getElem?_eq_none→avF
open Int renaming lt_irrefl→acG
open Nat renaming le_refl→acK,le_trans→acZ,min_eq_left→asB,min_eq_right→asI,le_mul_of_pos_right→as8,mul_le_mul_right→as9
open Option renaming map_some→aiI,some→aoC
open Bool renaming and_eq_true→asX
set_option linter.unusedSimpArgs false
set_option linter.unusedVariables false
namespace Go.Proofs.Ytfkokgjfpojeoaa
open Go.Ev Go Go.Ev.Bfs
set_option maxRecDepth 100000
set_option maxHeartbeats 16000000
def aa0:List (Int × Int)→Option Bool
 | []=>none
 |p::l=>if p.1=p.2 then aa0 l else some (decide (p.1<p.2))
theorem alE:∀(p q:List Int),akY p q=aa0 (p.zip q)
 | [],q=>by cases q<;>rfl
 |_::_,[]=>rfl
 |a::p,b::q=>by unfold akY;rw[ap9];unfold aa0;rw[alE p q]
def acI:List (Ii × Ii)→Bool
 | []=>false
 |p::l=>match aa0 (p.1.reads.zip p.2.reads)with
  |some r=>r
  |none=>if p.1.cmd=p.2.cmd then acI l else decide (p.1.cmd<p.2.cmd)
theorem alU:∀(A B:List Ii),ai2 (A.map prT) (B.map prT)=acI (A.zip B)
 | [],B=>by cases B<;>rfl
 |_::_,[]=>rfl
 |a::A,b::B=>by
  rw[adD,adD,ap9]
  unfold ai2 acI
  rw[alU A B,alE];rfl
theorem aoX{α β:Type}{A:List α}{B:List β}{i:Nat}{x:α × β}(h:(A.zip B)[i]?=some x):A[i]?=some x.1∧B[i]?=some x.2:=by
 obtain⟨a,b⟩:=x
 exact List.getElem?_zip_eq_some.1 h
theorem au3{A B:List Ii}{nn nn':Bool}(hA:A.length≤maxLen)(hB:B.length≤maxLen)(hrA:∀y∈A,y.reads.length≤maxLen):Dc.call (.fn 37) [Af 2 false nn (A.map Ii.cells),Af 2 false nn' (B.map Ii.cells)] []=some (.ret (.bool (acI (A.zip B))),[]):=by
 (refine ce Try.func37 ?_;simp only[Try.f37];(have hb:=trivial;with_reducible repeat' (first|simp only[hb,Vc.down,seval,sV.down,acE]|refine Aq ?_ ?_<;>intro hb|refine fd ?_|fail)))
 refine Dl (Ss 95 (A.zip B) (fun i (_:Unit) t h=>t 0=Af 2 false nn (A.map Ii.cells)∧t 1=Af 2 false nn' (B.map Ii.cells)∧t 5=.int .i64 i∧h=[]) (fun rest _=>acI rest) (fun r e t h=>h=[]∧((e=.ret∧t 4=.bool r)∨(r=false∧e=.exit 0))) ?_ ?_ () _ _ ?_) (fun e t h hk=>?_)
 ·rintro _ t h Q' kQ ⟨c0,c1,c5,rfl⟩
  rw[aiK]at c5
  by_cases hl:A.length≤B.length
  ·rw[asB hl]at c5
   (have hb:=trivial;with_reducible repeat' (first|simp only[hb,Vc.down,seval,sV.down,c0,c1,c5,acE,acG,decide_false]|refine Aq ?_ ?_<;>intro hb|refine fd ?_|fail))
   exact kQ _ _ _ ⟨rfl,.inr ⟨rfl,rfl⟩⟩
  ·rw[asI (by omega)]at c5
   have hd:((B.length:Int)<(A.length:Int))=True:=eq_true (by omega)
   (have hb:=trivial;with_reducible repeat' (first|simp only[hb,Vc.down,seval,sV.down,c0,c1,c5,hd,acE,acG,decide_false]|refine Aq ?_ ?_<;>intro hb|refine fd ?_|fail))
   exact kQ _ _ _ ⟨rfl,.inr ⟨rfl,rfl⟩⟩
 ·rintro p rest i _ t h J Q' kJ kQ hx hi ⟨c0,c1,c5,rfl⟩
  rw[aiK]at hi
  obtain⟨ga,gb⟩:=aoX hx
  obtain⟨a,b⟩:=p
  simp only at ga gb
  have hd1:((i:Int)<(A.length:Int))=True:=eq_true (by omega)
  have hd2:((i:Int)<(B.length:Int))=True:=eq_true (by omega)
  have hw:=Av (show i<A.length by omega) hA
  have hra:=hrA a (asS ga)
  (have hb:=trivial;with_reducible repeat' (first|simp only[hb,Vc.down,seval,sV.down,c0,c1,c5,hd1,hd2,acE]|refine Aq ?_ ?_<;>intro hb|refine fd ?_|fail))
  refine Dl (Ss 95 (a.reads.zip b.reads) (fun j (_:Unit) t h=>t 0=Af 2 false nn (A.map Ii.cells)∧t 1=Af 2 false nn' (B.map Ii.cells)∧t 5=.int .i64 i∧t 6=.int .i64 j∧h=[]) (fun rest _=>aa0 rest) (fun r e t h=>h=[]∧match r with
   |some v=>e=.ret∧t 4=.bool v
   |none=>e=.exit 2∧t 0=Af 2 false nn (A.map Ii.cells)∧t 1=Af 2 false nn' (B.map Ii.cells)∧t 5=.int .i64 i) ?_ ?_ () _ _ ?_) (fun e t h hk=>?_)
  ·rintro _ t h Q2 kQ2 ⟨d0,d1,d5,d6,rfl⟩
   rw[aiK]at d6
   by_cases hl:a.reads.length≤b.reads.length
   ·rw[asB hl]at d6
    (have hb:=trivial;with_reducible repeat' (first|simp only[hb,Vc.down,seval,sV.down,d0,d1,d5,d6,hd1,hd2,ga,gb,Ii.cells,acE,acG,decide_false]|refine Aq ?_ ?_<;>intro hb|refine fd ?_|fail))
    exact kQ2 _ _ _ ⟨rfl,rfl,by simp[up,d0],by simp[up,d1],by simp[up,d5]⟩
   ·rw[asI (by omega)]at d6
    have hd:((b.reads.length:Int)<(a.reads.length:Int))=True:=eq_true (by omega)
    (have hb:=trivial;with_reducible repeat' (first|simp only[hb,Vc.down,seval,sV.down,d0,d1,d5,d6,hd,hd1,hd2,ga,gb,Ii.cells,acE,acG,decide_false]|refine Aq ?_ ?_<;>intro hb|refine fd ?_|fail))
    exact kQ2 _ _ _ ⟨rfl,rfl,by simp[up,d0],by simp[up,d1],by simp[up,d5]⟩
  ·rintro q rest2 j _ t h J2 Q2 kJ2 kQ2 hx2 hj ⟨d0,d1,d5,d6,rfl⟩
   rw[aiK]at hj
   obtain⟨ra,rb⟩:=aoX hx2
   obtain⟨x,y⟩:=q
   simp only at ra rb
   have he1:((j:Int)<(a.reads.length:Int))=True:=eq_true (by omega)
   have he2:((j:Int)<(b.reads.length:Int))=True:=eq_true (by omega)
   have hwj:=Av (show j<a.reads.length by omega) hra
   by_cases hxy:x=y
   ·have hb2:(x==y)=true:=by simp[hxy]
    have hF:aa0 ((x,y)::rest2)=aa0 rest2:=by simp[aa0,hxy]
    rw[hF]at kJ2
    (have hb:=trivial;with_reducible repeat' (first|simp only[hb,Vc.down,seval,sV.down,d0,d1,d5,d6,he1,he2,hd1,hd2,ga,gb,ra,rb,iv,hb2,hwj,Ii.cells,acE]|refine Aq ?_ ?_<;>intro hb|refine fd ?_|fail))
    exact Ax (kJ2 _ _ () ⟨by simp[up,d0],by simp[up,d1],by simp[up,d5],by simp[up]<;>omega,rfl⟩ rfl)
   ·have hb2:(x==y)=false:=by simp[hxy]
    have hF:aa0 ((x,y)::rest2)=some (decide (x<y)):=by simp[aa0,hxy]
    rw[hF]at kQ2
    (have hb:=trivial;with_reducible repeat' (first|simp only[hb,Vc.down,seval,sV.down,d0,d1,d5,d6,he1,he2,hd1,hd2,ga,gb,ra,rb,iv,hb2,Ii.cells,acE]|refine Aq ?_ ?_<;>intro hb|refine fd ?_|fail))
    exact kQ2 _ _ _ ⟨rfl,rfl,by simp[up]⟩
  ·exact⟨by simp[up,c0],by simp[up,c1],by simp[up,c5],by simp[up],rfl⟩
  ·obtain⟨rfl,hk⟩:=hk
   cases hz:aa0 (a.reads.zip b.reads)with
   |some v=>
    rw[hz]at hk
    obtain⟨rfl,d4⟩:=hk
    have hF:acI ((a,b)::rest)=v:=by rw[acI];simp only[hz]
    rw[hF]at kQ
    (have hb:=trivial;with_reducible repeat' (first|simp only[hb,Vc.down,seval,sV.down]|refine Aq ?_ ?_<;>intro hb|refine fd ?_|fail))
    exact kQ _ _ _ ⟨rfl,.inl ⟨rfl,d4⟩⟩
   |none=>
    rw[hz]at hk
    obtain⟨rfl,d0,d1,d5⟩:=hk
    have hF:acI ((a,b)::rest)=if a.cmd=b.cmd then acI rest else decide (a.cmd<b.cmd):=by rw[acI];simp only[hz]
    rw[hF]at kJ kQ
    by_cases hc:a.cmd=b.cmd
    ·have hb2:(a.cmd==b.cmd)=true:=by simp[hc]
     rw[if_pos hc]at kJ
     (have hb:=trivial;with_reducible repeat' (first|simp only[hb,Vc.down,seval,sV.down,d0,d1,d5,hd1,hd2,ga,gb,hb2,hw,Ii.cells,acE]|refine Aq ?_ ?_<;>intro hb|refine fd ?_|fail))
     exact Ax (kJ _ _ () ⟨by simp[up,d0],by simp[up,d1],by simp[up]<;>omega,rfl⟩ rfl)
    ·have hb2:(a.cmd==b.cmd)=false:=by simp[hc]
     rw[if_neg hc]at kQ
     (have hb:=trivial;with_reducible repeat' (first|simp only[hb,Vc.down,seval,sV.down,d0,d1,d5,hd1,hd2,ga,gb,hb2,Ii.cells,acE]|refine Aq ?_ ?_<;>intro hb|refine fd ?_|fail))
     exact kQ _ _ _ ⟨rfl,.inl ⟨rfl,by simp[up]⟩⟩
 ·exact⟨by simp[up,Eg],by simp[up,Eg],by simp[up],rfl⟩
 ·obtain⟨rfl,⟨rfl,c4⟩|⟨hr,rfl⟩⟩:=hk
  ·(have hb:=trivial;with_reducible repeat' (first|simp only[hb,Vc.down,seval,sV.down,c4]|refine Aq ?_ ?_<;>intro hb|refine fd ?_|fail))
  ·(have hb:=trivial;with_reducible repeat' (first|simp only[hb,Vc.down,seval,sV.down]|refine Aq ?_ ?_<;>intro hb|refine fd ?_|fail))
   all_goals simp[hr]
theorem Ob(m:Ad):Cc 8 (.agg m.cells)=true:=by simp[Ad.cells,anK,bN,Uj]
theorem jP(H:Ab)(m:Ad):tV H (.agg m.cells)=some (.agg m.cells):=bH _ (d:=8) (by omega) (Ob m)
theorem xZ(h:Ab)(m:Ad)(n:Int):[AV.agg m.cells,AV.int .i64 n].flatMap (Cf 12 (hf h))=[]:=by
 rw[anC,Rj (hf h) (show 8≤12 by omega) (Ob m)]
 rfl
def aoD(m:Ad):Int:=(al2 m.sens.length).foldl (fun n k=>IntKind.i64.wrap (n*((Ll m k).length:Int))) (IntKind.i64.wrap (m.cmds+1))
theorem bfP{m:Ad}(hs:m.small)(hm:Bh m=true):Dc.call (.fn 52) [.agg m.cells] []=some (.ret (.int .i64 (aoD m)),[]):=by
 obtain⟨q,hq⟩:∃q,Fn.func 77=q:=⟨_,rfl⟩
 have hs6:=dG hm
 refine ce Try.func52 ?_
 simp only[Try.f52]
 (have hb:=trivial;with_reducible repeat' (first|simp only[hb,Vc.down,seval,aBU.down,acE]|refine Aq ?_ ?_<;>intro hb|refine fd ?_|fail))
 refine Dl (Ss 22 (al2 m.sens.length) (fun i (n:Int) t h=>t 1=.ptr 0 0 0∧t 3=.int .i64 n∧t 4=.int .i64 i∧∃x,h[0]?=some (.live 7 false x [m.cells])) (fun rest n=>rest.foldl (fun n k=>IntKind.i64.wrap (n*((Ll m k).length:Int))) n) (fun r e t h=>e=.exit 0∧t 3=.int .i64 r) ?_ ?_ (IntKind.i64.wrap (m.cmds+1)) _ _ ?_) (fun e t h hk=>?_)
 ·rintro n t h Q' kQ ⟨c1,c3,c4,x0,h0⟩
  rw[al3]at c4
  (have hb:=trivial;with_reducible repeat' (first|simp only[hb,Vc.down,seval,aBU.down,c1,c3,c4,h0,acE,acG,decide_false]|refine Aq ?_ ?_<;>intro hb|refine fd ?_|fail))
  exact kQ _ _ _ ⟨rfl,by simp[up,c3]⟩
 ·rintro k rest i n t h J Q' kJ kQ hx hi ⟨c1,c3,c4,x0,h0⟩
  rw[al3]at hi
  obtain rfl:i=k:=by rw[anF hi]at hx;cases hx;rfl
  have hd:((i:Int)<(m.sens.length:Int))=True:=eq_true (by omega)
  have hw:=Av hi hs.sens
  obtain⟨nn,KE⟩:=atI hs hm hi
  obtain⟨v,es,H1,R,e1,e2,K,r1,r2,r3⟩:=KE.cl (H:=h) (args:=[.agg m.cells,.int .i64 (i:Int)]) (Xl rfl) (by simp only[Hw,Jk,jP,Gi];rfl) (by simp[Ob,List.all_cons,bN])
  rw[hq]at e1
  have hlen:∃b,v=.slr 1 b 0 (Ll m i).length:=by
   rcases Rf r1 with⟨_,h1⟩|⟨b,rows',rfl,_⟩
   ·simp[Ll]at h1
   ·exact⟨b,by simp⟩
  obtain⟨b,rfl⟩:=hlen
  have h01:H1[0]?=some (.live 7 false x0 [m.cells]):=by
   rw[K.same 0 (An h0) (by rw[show [AV.agg m.cells,AV.int .i64 (i:Int)].flatMap (Cf 12 (hf h))=[]from xZ h m i];simp)];exact h0
  (have hb:=trivial;with_reducible repeat' (first|simp only[hb,Vc.down,seval,aBU.down,c1,c3,c4,h0,hd,hw,hq,e1,e2,acE]|refine Aq ?_ ?_<;>intro hb|refine fd ?_|fail))
  exact Ax (kJ _ _ (IntKind.i64.wrap (n*((Ll m i).length:Int))) ⟨by simp[up,c1],by simp[up],by simp[up]<;>omega,x0,h01⟩ rfl)
 ·exact⟨by simp[up,Eg],by simp[up],by simp[up],false,rfl⟩
 ·obtain⟨rfl,c3⟩:=hk
  (have hb:=trivial;with_reducible repeat' (first|simp only[hb,Vc.down,seval,aBU.down,c3]|refine Aq ?_ ?_<;>intro hb|refine fd ?_|fail))
  all_goals rfl
def jX(m:Ad)(n:Int):Bool:=tK m&&(!Bh m||(decide (m.sens.length≤3)&&decide (aoD m≤n)))
theorem apP{m:Ad}(hs:m.small)(n:Int):Dc.call (.fn 20) [.agg m.cells,.int .i64 n] []=some (.ret (.bool (jX m n)),[]):=by
 have h1:=a2Z m hs
 have h2:=sU m hs
 unfold jX
 have l3:decide ((m.sens.length:Int)≤3)=decide (m.sens.length≤3):=by rw[decide_eq_decide];omega
 cases c1:tK m with
 |false=>
  rw[c1]at h1
  (refine ce Try.func20 ?_;simp only[Try.f20];(have hb:=trivial;with_reducible repeat' (first|simp only[hb,Vc.down,seval,aT6.down,h1]|refine Aq ?_ ?_<;>intro hb|refine fd ?_|fail)))
 |true=>
  rw[c1]at h1
  cases c2:Bh m with
  |false=>
   rw[c2]at h2
   (refine ce Try.func20 ?_;simp only[Try.f20];(have hb:=trivial;with_reducible repeat' (first|simp only[hb,Vc.down,seval,aT6.down,h1,h2]|refine Aq ?_ ?_<;>intro hb|refine fd ?_|fail)))
  |true=>
   rw[c2]at h2
   have h3:=bfP hs c2
   cases c3:decide (m.sens.length≤3)with
   |false=>
    rw[c3]at l3
    have l4:=of_decide_eq_false l3
    (refine ce Try.func20 ?_;simp only[Try.f20];(have hb:=trivial;with_reducible repeat' (first|simp only[hb,Vc.down,seval,aT6.down,h1,h2,l3,l4,acE]|refine Aq ?_ ?_<;>intro hb|refine fd ?_|fail)))
    all_goals simp_all
   |true=>
    rw[c3]at l3
    have l4:=of_decide_eq_true l3
    (refine ce Try.func20 ?_;simp only[Try.f20];(have hb:=trivial;with_reducible repeat' (first|simp only[hb,Vc.down,seval,aT6.down,h1,h2,h3,l3,l4,acE]|refine Aq ?_ ?_<;>intro hb|refine fd ?_|fail)))
    all_goals simp_all
theorem avP{m:Ad}(hm:Bh m=true){a:List Int × Int}(h:Leg m a):auW m (tsc a)=true:=by
 have hc:=aE hm
 obtain⟨h1,h2,h3,h4⟩:=h
 simp only[auW,afZ,asX,List.all_eq_true,beq_iff_eq]
 rw[Ed (by omega) (by omega)]
 refine⟨⟨by simp only[tsc];omega,fun n hn=>(alC n).2 (h2 n hn)⟩,?_⟩
 simp only[To,tsc,asX,decide_eq_true_eq]
 exact⟨decide_eq_true h3,decide_eq_true (by omega)⟩
theorem ah7{m:Ad}(hm:Bh m=true):xN m (m.bgn,0):=by
 have hs:=Ie hm
 exact⟨hs.2.2.1,hs.2.2.2,by simp,by simp⟩
theorem aqE(m:Ad)(hm:Bh m=true)(D:List ((Int × Int) × List Nat)):(Zp m D).length≤8:=by
 have hst:=Ie hm
 unfold Zp
 refine acZ (List.length_filter_le _ _) ?_
 rw[Lx];omega
theorem a2U{H:Ab}{v x:AV}{R:List Nat}(r:rd 6 (hf H) v=some (x,R)):tV H v=some x:=mJ (show 6≤12 by omega) r
theorem a39(H:Ab)(n:Int):tV H (.int .i64 n)=some (.int .i64 n):=rfl
theorem auA{O:Hv}{f:Nat}{g:HF}{d st:Nat}{fl nn:Bool}{v:AV}{rows:List (List AV)}{R:List Nat}(r:rd (d+1) g v=some (Af st fl nn rows,R))(hm:O.md f=false)(l:List AV):pkd O f (v::l):=by
 rcases Rf r with⟨rfl,_⟩|⟨b,rows',rfl,_⟩
 ·exact axU rfl
 ·exact fun _=>by simp[eA,hm]
def RwB(h:Ab)(lo hi:Nat)(r:List Int)(u:AV):Prop:=(u=.nils∧r=[])∨∃c x,u=.slr 1 c 0 r.length∧r≠[]∧h[c]?=some (.live 1 true x (r.map iv))∧lo≤c∧c<hi
theorem RwB.keep{h h':Ab}{lo hi lo' hi':Nat}{r:List Int}{u:AV}(I:RwB h lo hi r u)(k:∀c s n,u=.slr 1 c s n→lo≤c→c<hi→h'[c]?=h[c]?)(hl:lo'≤lo)(hh:hi≤hi'):RwB h' lo' hi' r u:=by
 rcases I with h1|⟨c,x,rfl,h2,h3,h4,h5⟩
 ·exact .inl h1
 ·exact .inr ⟨c,x,rfl,h2,by rw[k c _ _ rfl h4 h5];exact h3,by omega,by omega⟩
structure RwH(h:Ab)(lo hi:Nat)(R:List (List Int))(b:Nat)(vs:List AV):Prop where
 ls:∃x,h[b]?=some (.live 1 false x (vs.map fun v=>[v]))
 ln:vs.length=R.length
 rw:∀(i:Nat) (u:AV) (r:List Int),vs[i]?=some u→R[i]?=some r→RwB h lo hi r u∧∀c s n,u=.slr 1 c s n→c≠b
 lob:lo≤b
 hib:b<hi
theorem RwH.keep{h h':Ab}{lo hi lo' hi':Nat}{R:List (List Int)}{b:Nat}{vs:List AV}(I:RwH h lo hi R b vs)(k:∀c,lo≤c→c<hi→h'[c]?=h[c]?)(hl:lo'≤lo)(hh:hi≤hi'):RwH h' lo' hi' R b vs:=
 ⟨by obtain⟨x,hx⟩:=I.ls;exact⟨x,by rw[k b I.lob I.hib];exact hx⟩,I.ln,fun i u r hu hr=>⟨(I.rw i u r hu hr).1.keep (fun c _ _ _ h1 h2=>k c h1 h2) hl hh,(I.rw i u r hu hr).2⟩,by have:=I.lob;omega,by have:=I.hib;omega⟩
theorem RwH.snoc{h G:Ab}{lo hi hi2:Nat}{R:List (List Int)}{b:Nat}{vs:List AV}(I:RwH h lo hi R b vs)(k:∀c,lo≤c→c<hi→c≠b→G[c]?=h[c]?){r:List Int}{u:AV}(hu:RwB G lo hi2 r u){b2:Nat}(hub:∀c s n,u=.slr 1 c s n→c≠b2)(hG:∃x,G[b2]?=some (.live 1 false x (vs.map (fun v=>[v])++[[u]])))(h1:hi≤b2)(h2:b2<hi2):RwH G lo hi2 (R++[r]) b2 (vs++[u]):=by
 have ln:=I.ln
 refine⟨?_,by simp[ln],fun i u' r' hu' hr'=>?_,by have:=I.lob;have:=I.hib;omega,h2⟩
 ·obtain⟨x,hx⟩:=hG
  exact⟨x,by rw[hx];simp⟩
 ·by_cases hi':i<vs.length
  ·rw[al4 hi']at hu'
   rw[al4 (by omega)]at hr'
   obtain⟨q1,q2⟩:=I.rw i u' r' hu' hr'
   refine⟨q1.keep (fun c s n e g1 g2=>k c g1 g2 (q2 c s n e)) (by omega) (by omega),fun c s n e=>?_⟩
   rcases q1 with⟨rfl,_⟩|⟨c',x,rfl,_,_,_,g⟩
   ·cases e
   ·cases e;omega
  ·rw[an5 (by omega)]at hu'
   rw[an5 (by omega)]at hr'
   have e0:i-vs.length=0:=by have:=Yg hu';simp at this;omega
   rw[e0]at hu'
   rw[show i-R.length=0 by omega]at hr'
   simp only[as6,aoC.injEq]at hu' hr'
   subst hu' hr'
   exact⟨hu,hub⟩
theorem RwH.one{G:Ab}{lo hi2:Nat}{r:List Int}{u:AV}(hu:RwB G lo hi2 r u){b2:Nat}(hub:∀c s n,u=.slr 1 c s n→c≠b2)(hG:∃x,G[b2]?=some (.live 1 false x [[u]]))(h1:lo≤b2)(h2:b2<hi2):RwH G lo hi2 [r] b2 [u]:=by
 refine⟨hG,rfl,fun i u' r' hu' hr'=>?_,h1,h2⟩
 have e0:i=0:=by have:=Yg hu';simp at this;omega
 subst e0
 simp only[as6,aoC.injEq]at hu' hr'
 subst hu' hr'
 exact⟨hu,hub⟩
def NxH(h:Ab)(lo hi:Nat)(R:List (List Int))(v:AV):Prop:=(R=[]∧v=.nils)∨∃b vs,v=.slr 1 b 0 R.length∧RwH h lo hi R b vs
def Jg(m:Ad)(d:Nat):List (List Int):=(Zv m 0 d).foldl Tv [[]]
theorem oP(m:Ad)(d:Nat):Jg m (d+1)=Tv (Jg m d) (Ll m d):=by
 have:Zv m 0 (d+1)=Zv m 0 d++[Ll m d]:=by
  unfold Zv
  rw[List.range_succ,ah3]
  simp
 unfold Jg
 rw[this,List.foldl_append];rfl
theorem ae6(m:Ad):Jg m m.sens.length=Vu (Zv m 0 m.sens.length):=by
 unfold Jg
 rw[aiN]
 simp
theorem afS(rows:List (List Int))(l:List Int):(Tv rows l).length=rows.length*l.length:=by
 unfold Tv
 induction rows with
 |nil=>simp
 |cons r rows ih=>rw[anC,aiC,ih,acE,ahZ];rw[Nat.add_mul,Nat.one_mul];omega
theorem anG(R:List (List Int))(r:List Int)(E:List Int):Tv (R++[r]) E=Tv R E++E.map fun n=>r++[n]:=by simp[Tv]
theorem lS(m:Ad)(d:Nat):(Jg m (d+1)).length=(Jg m d).length*(Ll m d).length:=by rw[oP,afS]
theorem agC(m:Ad)(k:Nat):1≤(Ll m k).length:=by simp[Ll]
theorem lZ(m:Ad):∀d,1≤(Jg m d).length
 |0=>by simp[Jg,Zv]
 |d+1=>by rw[lS];exact Nat.mul_le_mul (lZ m d) (agC m d)
theorem aa1(m:Ad){d:Nat}:∀k,(Jg m d).length≤(Jg m (d+k)).length
 |0=>acK _
 |k+1=>by
  rw[←Nat.add_assoc,lS]
  exact acZ (aa1 m k) (as8 _ (agC m _))
theorem afG(m:Ad):∀(d:Nat) (r:List Int),r∈Jg m d→r.length=d
 |0,r,h=>by simp[Jg,Zv]at h;simp[h]
 |d+1,r,h=>by
  rw[oP]at h
  simp only[Tv,List.mem_flatMap,ao3]at h
  obtain⟨q,hq,n,_,rfl⟩:=h
  simp[afG m d q hq]
theorem bk6{r:List Int}(h:r≠[])(hl:r.length≤100)(H:Ab):apK 1 H (some .nils) (some (true,r.map iv))=some (.ret (.slr 1 H.length 0 r.length),[.new H.length (.live 1 true false (r.map iv))]):=by
 cases r with
 |nil=>exact(h rfl).elim
 |cons a r=>
  have:=fW (k:=0) (pre:=[]) (Wc.nil 0 1 true H) rfl [] (iv a) (r.map iv) (by simp at hl ⊢;omega)
  simpa [apE]using this
theorem pP(m:Ad):(Dx m).length=(Jg m m.sens.length).length*(Ep m).length:=by
 unfold Dx Vn
 rw[←ae6]
 generalize Jg m m.sens.length=R
 induction R with
 |nil=>simp
 |cons r R ih=>rw[anC,aiC,ih,acE,ahZ];rw[Nat.add_mul,Nat.one_mul];omega
def scC(x:List Int × Int):List AV:=[Af 1 true false (x.1.map iv),.int .i64 x.2]
structure OtI(m:Ad)(HH:Nat)(RN:List (List Int))(b:Nat)(vs:List AV)(X:List (List Int × Int))(v:AV)(h:Ab):Prop where
 h0:∃x,h[0]?=some (.live 7 false x [m.cells])
 I:RwH h 1 HH RN b vs
 hl:HH≤h.length
 L:∃rows Ro,nH 2 1 v h rows (X.map scC) Ro∧rows.length=X.length∧Ro.length≤X.length∧∀c∈Ro,c<HH
 hv:∀a c r n,v=.slr a c r n→HH≤c
theorem OtI.snoc{m:Ad}{HH:Nat}{RN:List (List Int)}{b:Nat}{vs:List AV}{X:List (List Int × Int)}{v:AV}{h:Ab}(O:OtI m HH RN b vs X v h){rows:List (List AV)}{Ro:List Nat}(L:nH 2 1 v h rows (X.map scC) Ro)(hl1:rows.length=X.length)(hl2:Ro.length≤X.length)(hl3:∀c∈Ro,c<HH){k:Nat}{u:AV}{r:List Int}(hu:vs[k]?=some u)(hr:RN[k]?=some r)(c:Int)(a:CB):OtI m HH RN b vs (X++[(r,c)]) (.slr 2 (h.length+1) 0 (X.length+1)) (kl 0 v h++([a]++[.live 2 false false (rows++[[u,.int .i64 c]])])):=by
 have hkl:(kl 0 v h).length=h.length:=Jq ..
 have gk:∀d,d<HH→(kl 0 v h++([a]++[CB.live 2 false false (rows++[[u,.int .i64 c]])]))[d]?=h[d]?:=fun d hd=>axG _ (by have:=O.hl;omega) fun st c r n e e2=>by have:=O.hv _ _ _ _ e;omega
 have hG:(kl 0 v h++([a]++[CB.live 2 false false (rows++[[u,.int .i64 c]])]))[h.length+1]?=some (.live 2 false false (rows++[[u,.int .i64 c]])):=by
  rw[an5 (by omega),hkl,show h.length+1-h.length=1 by omega];rfl
 have hHl:=O.hl
 generalize kl 0 v h++([a]++[CB.live 2 false false (rows++[[u,.int .i64 c]])])=G at gk hG
 have I':RwH G 1 HH RN b vs:=O.I.keep (fun d _ hd=>gk d hd) (acK _) (acK _)
 have h1:1≤HH:=by have:=I'.lob;have:=I'.hib;omega
 have hGl:=An hG
 obtain⟨hU,_⟩:=I'.rw k u r hu hr
 obtain⟨R',q1,q2,q3⟩:∃R',Xa (rd 5 (hf G)) [u,.int .i64 c]=some (scC (r,c),R')∧R'.length≤1∧∀d∈R',1≤d∧d<HH:=by
  rcases hU with⟨rfl,rfl⟩|⟨d,x,rfl,hn,g,g1,g2⟩
  ·exact⟨[],Oq (R1:=[]) rfl (Oq (vB ..) nL),by simp,by simp⟩
  ·refine⟨[d],?_,by simp,fun e he=>by simp at he;omega⟩
   have hg:(hf G d).bind Ci=some (1,true,r.map iv):=by show(G[d]?).bind Ci=_;rw[g];rfl
   have:=Oq (wO (d:=4) (n:=r.length) hg (by simp)) (Oq (vB IntKind.i64 c) nL)
   unfold scC
   rw[agX (by simpa using hn)]
   simpa using this
 refine⟨by obtain⟨x,hx⟩:=O.h0;exact⟨x,by rw[gk 0 (by omega)];exact hx⟩,I',by omega,⟨rows++[[u,.int .i64 c]],Ro++R',?_,by simp[hl1],by simp;omega,fun d hd=>?_⟩,fun st d r n e=>by cases e;omega⟩
 ·rw[ah3]
  exact L.step hG (fun j hj z hz=>by rw[gk j (hl3 j hj)];exact hz) q1 (fun d hd=>by have:=q3 d hd;omega) (by omega) (fun hd=>by have:=hl3 _ hd;omega) (by rw[hl1])
 ·rcases List.mem_append.1 hd with hd|hd
  ·exact hl3 d hd
  ·exact(q3 d hd).2
theorem aUS{m:Ad}(hs:m.small)(hm:Bh m=true)(hN:(Dx m).length≤4000):RdV Dc 59 [.agg m.cells] (Af 2 false false ((Dx m).map scC)) 4001:=by
 have key:ClQ Dc 59 [.agg m.cells] [] fun o h'=>∃v R,o=.ret v∧rd 6 (hf h') v=some (Af 2 false false ((Dx m).map scC),R)∧R.length≤4001∧∀c∈h',Rnm c:=by
  obtain⟨q,hq⟩:∃q,Fn.func 77=q:=⟨_,rfl⟩
  have hs6:=dG hm
  have hc4:=aE hm
  have hcl:=dV hm
  have hRN:∀d,d≤m.sens.length→(Jg m d).length≤4000:=fun d hd=>by
   have h1:=aa1 m (d:=d) (m.sens.length-d)
   rw[show d+(m.sens.length-d)=m.sens.length by omega]at h1
   have h2:(Jg m m.sens.length).length≤(Jg m m.sens.length).length*(Ep m).length:=as8 _ (by omega)
   rw[pP]at hN
   omega
  refine abD rfl Try.func59 rfl rfl ?_
  simp only[Try.f59]
  refine Ik (fun K iN hK=>?_)
  (have hb:=trivial;with_reducible repeat' (first|simp only[hb,Vc.down,seval,eE.down,acE]|refine Aq ?_ ?_<;>intro hb|refine fd ?_|fail))
  refine Dl (Ss 72 (al2 m.sens.length) (fun i (_:Unit) t h=>∃b vs,t 1=.ptr 0 0 0∧t 3=.slr 1 b 0 (Jg m i).length∧t 4=.int .i64 i∧(∃x,h[0]?=some (.live 7 false x [m.cells]))∧RwH h 1 h.length (Jg m i) b vs) (fun _ _=>()) (fun _ e t h=>e=.exit 0∧∃b vs,t 1=.ptr 0 0 0∧t 3=.slr 1 b 0 (Jg m m.sens.length).length∧(∃x,h[0]?=some (.live 7 false x [m.cells]))∧RwH h 1 h.length (Jg m m.sens.length) b vs) ?_ ?_ () _ _ ?_) (fun e t h hk=>?_)
  ·rintro _ t h Q' kQ ⟨b,vs,c1,c3,c4,⟨x0,h0⟩,I⟩
   rw[al3]at c3 c4 I
   (have hb:=trivial;with_reducible repeat' (first|simp only[hb,Vc.down,seval,eE.down,c1,c3,c4,h0,acE,acG,decide_false]|refine Aq ?_ ?_<;>intro hb|refine fd ?_|fail))
   exact kQ _ _ _ ⟨rfl,b,vs,by simp[up,c1],by simp[up,c3],⟨x0,h0⟩,I⟩
  ·rintro k rest i _ t h J Q' kJ kQ hx hi ⟨rb,vs,c1,c3,c4,⟨x0,h0⟩,I⟩
   rw[al3]at hi
   obtain rfl:i=k:=by rw[anF hi]at hx;cases hx;rfl
   have hd:((i:Int)<(m.sens.length:Int))=True:=eq_true (by omega)
   have hw:=Av hi hs.sens
   obtain⟨nn,KE⟩:=atI hs hm hi
   obtain⟨v,es,H1,R,e1,e2,K1,r1,r2,r3⟩:=KE.cl (H:=h) (args:=[.agg m.cells,.int .i64 (i:Int)]) (Xl rfl) (by simp only[Hw,Jk,jP,Gi];rfl) (by simp[Ob,List.all_cons,bN])
   rw[hq]at e1
   rw[xZ]at K1
   have hsm:∀c,c<h.length→H1[c]?=h[c]?:=fun c hc=>K1.same c hc (by simp)
   obtain⟨eb,cE,rfl,g1,g2,g3⟩:∃b c,v=.slr 1 b 0 (Ll m i).length∧H1[b]?=some c∧(∀k:Nat,Qp (some c) k=((Ll m i).map iv)[k]?)∧h.length≤b:=by
    rcases Rf r1 with⟨_,h1⟩|⟨b,rows',rfl,w1,w2,w3,_⟩
    ·simp[Ll]at h1
    ·obtain⟨c,w5,w6⟩:=Option.bind_eq_some_iff.1 w1
     have w5':H1[b]?=some c:=w5
     have w7:=xY w1
     refine⟨b,c,by simp,w5,fun k=>?_,?_⟩
     ·have:=w7 k
      rw[w5',w3 rfl]at this
      exact this
     ·have r4:=wO (d:=5) (n:=((Ll m i).map iv).length) (w3 rfl▸w1) rfl
      rw[r4]at r1
      simp only[aoC.injEq,Prod.mk.injEq]at r1
      exact r3 b (by rw[←r1.2];simp)
   have h01:H1[0]?=some (.live 7 false x0 [m.cells]):=by rw[hsm 0 (An h0)];exact h0
   have I1:RwH H1 1 H1.length (Jg m i) rb vs:=I.keep (fun c _ hc=>hsm c hc) (by omega) K1.len
   have hEl:(Ll m i).length≤4000:=by
    have h1:=hRN (i+1) (by omega)
    rw[lS]at h1
    exact acZ (Nat.le_mul_of_pos_left _ (lZ m i)) h1
   have hRl:=hRN i (by omega)
   have hRl2:=hRN (i+1) (by omega)
   have hsucc:=oP m i
   generalize hR:Jg m i=RR at *
   generalize hE:Ll m i=EE at *
   generalize hR2:Jg m (i+1)=R2 at *
   subst hsucc
   (have hb:=trivial;with_reducible repeat' (first|simp only[hb,Vc.down,seval,eE.down,c1,c3,c4,h0,hd,hw,hq,e1,e2,acE]|refine Aq ?_ ?_<;>intro hb|refine fd ?_|fail))
   have hlp:∀k,k≤RR.length→(Tv (RR.take k) EE).length≤4000:=fun k hk=>by
    rw[afS]at hRl2 ⊢
    exact acZ (as9 _ (by rw[apC];omega)) hRl2
   refine Dl (Ss 72 RR (fun k (_:Unit) t h=>∃v,t 1=.ptr 0 0 0∧t 3=.slr 1 rb 0 RR.length∧t 4=.int .i64 i∧t 5=.slr 1 eb 0 EE.length∧t 6=v∧t 7=.int .i64 k∧(∃x,h[0]?=some (.live 7 false x [m.cells]))∧RwH h 1 H1.length RR rb vs∧h[eb]?=some cE∧H1.length≤h.length∧NxH h H1.length h.length (Tv (RR.take k) EE) v) (fun _ _=>()) (fun _ e t h=>e=.exit 2∧∃v,t 1=.ptr 0 0 0∧t 4=.int .i64 i∧t 6=v∧(∃x,h[0]?=some (.live 7 false x [m.cells]))∧H1.length≤h.length∧NxH h H1.length h.length (Tv RR EE) v) ?_ ?_ () _ _ ?_) (fun e t h hk=>?_)
   ·rintro _ t h Q2 kQ2 ⟨v,c1,c3,c4,c5,c6,c7,h0,I,hEb,hl,N⟩
    rw[al5]at N
    (have hb:=trivial;with_reducible repeat' (first|simp only[hb,Vc.down,seval,eE.down,c3,c7,acG,decide_false]|refine Aq ?_ ?_<;>intro hb|refine fd ?_|fail))
    exact kQ2 _ _ _ ⟨rfl,v,by simp[up,c1],by simp[up,c4],by simp[up,c6],h0,hl,N⟩
   ·rintro r rest k _ t h J2 Q2 kJ2 kQ2 hx2 hk2 ⟨v,c1,c3,c4,c5,c6,c7,h0,I,hEb,hl,N⟩
    have hd2:((k:Int)<(RR.length:Int))=True:=eq_true (by omega)
    have hw2:=Av hk2 (show RR.length≤maxLen by unfold maxLen;omega)
    have htk2:Tv (RR.take (k+1)) EE=Tv (RR.take k) EE++EE.map fun n=>r++[n]:=by rw[aiH,hx2];exact anG _ _ _
    have hlk:=hlp (k+1) (by omega)
    rw[htk2]at hlk
    (have hb:=trivial;with_reducible repeat' (first|simp only[hb,Vc.down,seval,eE.down,c3,c7,hd2]|refine Aq ?_ ?_<;>intro hb|refine fd ?_|fail))
    refine Dl (Ss 72 EE (fun n (_:Unit) t h=>∃v,t 1=.ptr 0 0 0∧t 3=.slr 1 rb 0 RR.length∧t 4=.int .i64 i∧t 5=.slr 1 eb 0 EE.length∧t 6=v∧t 7=.int .i64 k∧t 8=.int .i64 n∧(∃x,h[0]?=some (.live 7 false x [m.cells]))∧RwH h 1 H1.length RR rb vs∧h[eb]?=some cE∧H1.length≤h.length∧NxH h H1.length h.length (Tv (RR.take k) EE++(EE.take n).map fun n=>r++[n]) v) (fun _ _=>()) (fun _ e t h=>e=.exit 4∧∃v,t 1=.ptr 0 0 0∧t 3=.slr 1 rb 0 RR.length∧t 4=.int .i64 i∧t 5=.slr 1 eb 0 EE.length∧t 6=v∧t 7=.int .i64 k∧(∃x,h[0]?=some (.live 7 false x [m.cells]))∧RwH h 1 H1.length RR rb vs∧h[eb]?=some cE∧H1.length≤h.length∧NxH h H1.length h.length (Tv (RR.take k) EE++EE.map fun n=>r++[n]) v) ?_ ?_ () _ _ ?_) (fun e t h hk=>?_)
    ·rintro _ t h Q3 kQ3 ⟨v,c1,c3,c4,c5,c6,c7,c8,h0,I,hEb,hl,N⟩
     rw[al5]at N
     (have hb:=trivial;with_reducible repeat' (first|simp only[hb,Vc.down,seval,eE.down,c5,c8,acG,decide_false]|refine Aq ?_ ?_<;>intro hb|refine fd ?_|fail))
     exact kQ3 _ _ _ ⟨rfl,v,by simp[up,c1],by simp[up,c3],by simp[up,c4],by simp[up,c5],by simp[up,c6],by simp[up,c7],h0,I,hEb,hl,N⟩
    ·rintro n rest j _ t h J3 Q3 kJ3 kQ3 hx3 hk3 ⟨v,c1,c3,c4,c5,c6,c7,c8,h0,I,hEb,hl,N⟩
     have hd3:((j:Int)<(EE.length:Int))=True:=eq_true (by omega)
     have hw3:=Av hk3 (show EE.length≤maxLen by unfold maxLen;omega)
     have htk4:Tv (RR.take k) EE++(EE.take (j+1)).map (fun n=>r++[n])=(Tv (RR.take k) EE++(EE.take j).map (fun n=>r++[n]))++[r++[n]]:=by rw[aiH,hx3,ah3,←atA];rfl
     have htk3:(EE.take (j+1)).map (fun n=>r++[n])=(EE.take j).map (fun n=>r++[n])++[r++[n]]:=by rw[aiH,hx3,ah3];rfl
     have gE:Qp (some cE) j=some [.int .i64 n]:=by rw[g2 j,apH,hx3];rfl
     have hlj:(Tv (RR.take k) EE++(EE.take j).map fun n=>r++[n]).length≤4000:=by
      refine acZ ?_ hlk
      simp only[aiC,acE,apC]
      omega
     obtain⟨xl,hls⟩:=I.ls
     obtain⟨u,hu⟩:∃u,vs[k]?=some u:=⟨_,atB (by rw[I.ln];omega)⟩
     have gu:(vs.map fun v=>[v])[k]?=some [u]:=by rw[apH,hu];rfl
     obtain⟨hU,hUb⟩:=I.rw k u r hu hx2
     have hr0:rb<h.length:=An hls
     have he0:eb<h.length:=An hEb
     have hrl:r.length=i:=afG m i r (by rw[hR];exact asS hx2)
     have hr39:(r.length+1≤549755813888)=True:=eq_true (by omega)
     have heb1:=An g1
     generalize Tv (RR.take k) EE++(EE.take j).map (fun n=>r++[n])=NX at N hlj c6 htk4
     have hkp:∀l:Ab,∀c,c<h.length→(h++l)[c]?=h[c]?:=fun l c hc=>al4 hc
     have hkd:∀(vb:Nat) (l:Ab) c,c<h.length→c≠vb→(h.set vb CB.dead++l)[c]?=h[c]?:=fun vb l c hc hn=>by
      rw[al4 (by simpa using hc),apN (fun e=>hn e.symm)]
     have hH1:=An h01
     obtain⟨x0',h0⟩:=h0
     have Qu:∀h':Ab,h.length≤h'.length→(∀c,c<H1.length→h'[c]?=h[c]?)→(∃x,h'[0]?=some (.live 7 false x [m.cells]))∧RwH h' 1 H1.length RR rb vs∧h'[eb]?=some cE∧H1.length≤h'.length:=fun h' hl' hk'=>⟨⟨x0',by rw[hk' 0 hH1];exact h0⟩,I.keep (fun c _ hc=>hk' c hc) (acK _) (acK _),by rw[hk' eb heb1];exact hEb,by omega⟩
     have hrb1:=I.hib
     rcases hU with⟨rfl,rfl⟩|⟨ub,xu,rfl,hrn,gub,ub1,ub2⟩
     ·rcases N with⟨hn,rfl⟩|⟨vb,vvs,rfl,N⟩
      ·obtain⟨sf,s1,s2,sn,sk⟩:∃sf:Nat→Nat,sf rb=1∧sf eb=1∧sf h.length=10∧∀k,sf (h.length+k)=k+10:=⟨fun b=>if h.length≤b then b-h.length+10 else 1,by simp;omega,by simp;omega,by simp,fun k=>by simp⟩
       (have hb:=trivial;with_reducible repeat' (first|simp only[hb,Vc.down,seval,eE.down,c3,c5,c6,c7,c8,hd2,hd3,hls,hu,aiI,hEb,gE,Ac hls,Ac hEb,hw3,acE]|refine Aq ?_ ?_<;>intro hb|((refine Zi (Up (sf) ?_) ?_);(simp (discharger:=decide) only[Zq,Ul,adD,al6,Qd,Zo,Zk,Zh,Qc,ahZ,al7,s1,s2,sn,sk];kernel_rfl);intro _)|refine fdq ?_|fail))
       obtain⟨k1,k2,k3,k4⟩:=Qu (h++[CB.live 1 true false [[AV.int IntKind.i64 n]],CB.live 1 true false [[AV.int IntKind.i64 n]],CB.live 1 false false [[AV.slr 1 (h.length+1) 0 1]],CB.live 1 false false [[AV.slr 1 (h.length+1) 0 1]]]) (by simp) (fun c hc=>hkp _ c (by omega))
       refine Ax (kJ3 _ _ () ⟨.slr 1 (h.length+3) 0 1,by simp[up,c1],by simp[up,c3],by simp[up,c4],by simp[up,c5],by simp[up],by simp[up,c7],by simp[up],k1,k2,k3,k4,?_⟩ rfl)
       rw[htk4]
       subst hn
       exact .inr ⟨h.length+3,[AV.slr 1 (h.length+1) 0 1],by simp,.one (.inr ⟨h.length+1,false,by simp,by simp,(Px _ _ 1).trans rfl,by omega,by simp⟩) (fun c s n e=>by cases e;omega) ⟨false,(Px _ _ 3).trans rfl⟩ (by omega) (by simp)⟩
      ·obtain⟨xv,gvb⟩:=N.ls
       have hvl:=An gvb
       have hv1:=N.lob
       obtain⟨sf,s1,s2,s4,sn,sk⟩:∃sf:Nat→Nat,sf rb=1∧sf eb=1∧sf vb=4∧sf h.length=10∧∀k,sf (h.length+k)=k+10:=⟨fun b=>if h.length≤b then b-h.length+10 else if b=vb then 4 else 1,by show(if _ then _ else _)=_;rw[if_neg (by omega),if_neg (by omega)],by show(if _ then _ else _)=_;rw[if_neg (by omega),if_neg (by omega)],by show(if _ then _ else _)=_;rw[if_neg (by omega),if_pos rfl],by simp,fun k=>by simp⟩
       have hB:=Ac gvb
       have hSb:=Jt hvl
       have h39:(vvs.length+1≤549755813888)=True:=eq_true (by rw[N.ln];omega)
       rw[←N.ln]at c6
       (have hb:=trivial;with_reducible repeat' (first|simp only[hb,Vc.down,seval,eE.down,c3,c5,c6,c7,c8,hd2,hd3,hls,hu,aiI,hEb,gE,Ac hls,Ac hEb,hw3,gvb,hB,hSb,h39,Lm,Gj,al9,acE]|refine Aq ?_ ?_<;>intro hb|((refine Zi (Up (sf) ?_) ?_);(simp (discharger:=decide) only[Zq,Ul,adD,al6,Qd,Zo,Zk,Zh,Qc,ahZ,al7,s1,s2,s4,sn,sk];kernel_rfl);intro _)|refine fdq ?_|fail))
       obtain⟨k1,k2,k3,k4⟩:=Qu (h.set vb CB.dead++[CB.live 1 true false [[AV.int IntKind.i64 n]],CB.live 1 true false [[AV.int IntKind.i64 n]],CB.live 1 false false [[AV.slr 1 (h.length+1) 0 1]],CB.live 1 false false (amP (fun v=>[v]) vvs++[[AV.slr 1 (h.length+1) 0 1]])]) (by simp) (fun c hc=>hkd vb _ c (by omega) (by omega))
       refine Ax (kJ3 _ _ () ⟨.slr 1 (h.length+3) 0 (vvs.length+1),by simp[up,c1],by simp[up,c3],by simp[up,c4],by simp[up,c5],by simp[up],by simp[up,c7],by simp[up],k1,k2,k3,k4,?_⟩ rfl)
       rw[htk4]
       exact .inr ⟨h.length+3,vvs++[AV.slr 1 (h.length+1) 0 1],by simp[N.ln],N.snoc (fun c _ h2 h3=>hkd vb _ c h2 h3) (.inr ⟨h.length+1,false,by simp,by simp,(Gj _ _ 1).trans rfl,by omega,by simp⟩) (fun c s n e=>by cases e;omega) ⟨false,(Gj _ _ 3).trans rfl⟩ (by omega) (by simp)⟩
     ·have gubA:=Ac gub
      have hcp:=bk6 hrn (by omega)
      have htk:List.take r.length (r.map iv)=r.map iv:=List.take_of_length_le (by simp)
      rcases N with⟨hn,rfl⟩|⟨vb,vvs,rfl,N⟩
      ·obtain⟨sf,s1,s2,s3,sn,sk⟩:∃sf:Nat→Nat,sf rb=1∧sf eb=1∧sf ub=1∧sf h.length=10∧∀k,sf (h.length+k)=k+10:=⟨fun b=>if h.length≤b then b-h.length+10 else 1,by simp;omega,by simp;omega,by simp;omega,by simp,fun k=>by simp⟩
       (have hb:=trivial;with_reducible repeat' (first|simp only[hb,Vc.down,seval,eE.down,c3,c5,c6,c7,c8,hd2,hd3,hls,hu,aiI,hEb,gE,Ac hls,Ac hEb,hw3,gub,gubA,htk,hcp,hr39,acE]|refine Aq ?_ ?_<;>intro hb|((refine Zi (Up (sf) ?_) ?_);(simp (discharger:=decide) only[Zq,Ul,adD,al6,Qd,Zo,Zk,Zh,Qc,ahZ,al7,s1,s2,s3,sn,sk];kernel_rfl);intro _)|refine fdq ?_|fail))
       obtain⟨k1,k2,k3,k4⟩:=Qu (h++[CB.dead,CB.live 1 true false [[AV.int IntKind.i64 n]],CB.live 1 true false (amP iv r++[[AV.int IntKind.i64 n]]),CB.live 1 false false [[AV.slr 1 (h.length+2) 0 (r.length+1)]],CB.live 1 false false [[AV.slr 1 (h.length+2) 0 (r.length+1)]]]) (by simp) (fun c hc=>hkp _ c (by omega))
       refine Ax (kJ3 _ _ () ⟨.slr 1 (h.length+4) 0 1,by simp[up,c1],by simp[up,c3],by simp[up,c4],by simp[up,c5],by simp[up],by simp[up,c7],by simp[up],k1,k2,k3,k4,?_⟩ rfl)
       rw[htk4]
       subst hn
       exact .inr ⟨h.length+4,[AV.slr 1 (h.length+2) 0 (r.length+1)],by simp,.one (.inr ⟨h.length+2,false,by simp,by simp,(Px _ _ 2).trans (by simp[iv]),by omega,by simp⟩) (fun c s n e=>by cases e;omega) ⟨false,(Px _ _ 4).trans rfl⟩ (by omega) (by simp)⟩
      ·obtain⟨xv,gvb⟩:=N.ls
       have hvl:=An gvb
       have hv1:=N.lob
       obtain⟨sf,s1,s2,s3,s4,sn,sk⟩:∃sf:Nat→Nat,sf rb=1∧sf eb=1∧sf ub=1∧sf vb=4∧sf h.length=10∧∀k,sf (h.length+k)=k+10:=⟨fun b=>if h.length≤b then b-h.length+10 else if b=vb then 4 else 1,by show(if _ then _ else _)=_;rw[if_neg (by omega),if_neg (by omega)],by show(if _ then _ else _)=_;rw[if_neg (by omega),if_neg (by omega)],by show(if _ then _ else _)=_;rw[if_neg (by omega),if_neg (by omega)],by show(if _ then _ else _)=_;rw[if_neg (by omega),if_pos rfl],by simp,fun k=>by simp⟩
       have hB:=Ac gvb
       have hSb:=Jt hvl
       have h39:(vvs.length+1≤549755813888)=True:=eq_true (by rw[N.ln];omega)
       rw[←N.ln]at c6
       (have hb:=trivial;with_reducible repeat' (first|simp only[hb,Vc.down,seval,eE.down,c3,c5,c6,c7,c8,hd2,hd3,hls,hu,aiI,hEb,gE,Ac hls,Ac hEb,hw3,gub,gubA,htk,hcp,hr39,gvb,hB,hSb,h39,Lm,Gj,al9,acE]|refine Aq ?_ ?_<;>intro hb|((refine Zi (Up (sf) ?_) ?_);(simp (discharger:=decide) only[Zq,Ul,adD,al6,Qd,Zo,Zk,Zh,Qc,ahZ,al7,s1,s2,s3,s4,sn,sk];kernel_rfl);intro _)|refine fdq ?_|fail))
       obtain⟨k1,k2,k3,k4⟩:=Qu (h.set vb CB.dead++[CB.dead,CB.live 1 true false [[AV.int IntKind.i64 n]],CB.live 1 true false (amP iv r++[[AV.int IntKind.i64 n]]),CB.live 1 false false [[AV.slr 1 (h.length+2) 0 (r.length+1)]],CB.live 1 false false (amP (fun v=>[v]) vvs++[[AV.slr 1 (h.length+2) 0 (r.length+1)]])]) (by simp) (fun c hc=>hkd vb _ c (by omega) (by omega))
       refine Ax (kJ3 _ _ () ⟨.slr 1 (h.length+4) 0 (vvs.length+1),by simp[up,c1],by simp[up,c3],by simp[up,c4],by simp[up,c5],by simp[up],by simp[up,c7],by simp[up],k1,k2,k3,k4,?_⟩ rfl)
       rw[htk4]
       exact .inr ⟨h.length+4,vvs++[AV.slr 1 (h.length+2) 0 (r.length+1)],by simp[N.ln],N.snoc (fun c _ h2 h3=>hkd vb _ c h2 h3) (.inr ⟨h.length+2,false,by simp,by simp,(Gj _ _ 2).trans (by simp[iv]),by omega,by simp⟩) (fun c s n e=>by cases e;omega) ⟨false,(Gj _ _ 4).trans rfl⟩ (by omega) (by simp)⟩
    ·exact⟨v,by simp[up,c1],by simp[up,c3],by simp[up,c4],by simp[up,c5],by simp[up,c6],by simp[up,c7],by simp[up],h0,I,hEb,hl,by simpa using N⟩
    ·obtain⟨rfl,v,c1,c3,c4,c5,c6,c7,h0,I,hEb,hl,N⟩:=hk
     (have hb:=trivial;with_reducible repeat' (first|simp only[hb,Vc.down,seval,eE.down,c7,hw2]|refine Aq ?_ ?_<;>intro hb|refine fd ?_|fail))
     exact Ax (kJ2 _ _ () ⟨v,by simp[up,c1],by simp[up,c3],by simp[up,c4],by simp[up,c5],by simp[up,c6],by simp[up]<;>omega,h0,I,hEb,hl,by rw[htk2];exact N⟩ rfl)
   ·exact⟨.nils,by simp[up,c1],by simp[up,c3],by simp[up,c4],by simp[up],by simp[up],by simp[up],⟨x0,h01⟩,I1,g1,acK _,.inl ⟨by simp[Tv],rfl⟩⟩
   ·obtain⟨rfl,v,c1,c4,c6,h0,hl,N⟩:=hk
    rcases N with⟨hn,_⟩|⟨b,vs',rfl,N⟩
    ·have h1:=lZ m (i+1)
     rw[hR2,hn]at h1
     simp at h1
    ·(have hb:=trivial;with_reducible repeat' (first|simp only[hb,Vc.down,seval,eE.down,c4,c6,hw]|refine Aq ?_ ?_<;>intro hb|refine fd ?_|fail))
     exact Ax (kJ _ _ () ⟨b,vs',by simp[up,c1],by simp[up,hR2],by simp[up]<;>omega,h0,by exact N.keep (fun _ _ _=>rfl) (by have:=An h01;omega) (acK _)⟩ rfl)
  ·exact⟨1,[.nils],by simp[up,Eg],by simp[up,Jg,Zv],by simp[up],⟨false,rfl⟩,.one (.inl ⟨rfl,rfl⟩) (by simp) ⟨false,rfl⟩ (by omega) (by simp)⟩
  ·obtain⟨rfl,b,vs,c1,c3,h0,I⟩:=hk
   have hRl:=hRN m.sens.length (acK _)
   have hall:Dx m=Vn (Ep m) (Jg m m.sens.length):=by rw[ae6];rfl
   rw[hall]at hN hK
   generalize Jg m m.sens.length=RN at *
   have hC5:(Ep m).length≤5:=by omega
   have hwl:∀k,k≤RN.length→(Vn (Ep m) (RN.take k)).length≤4000:=fun k hk=>by
    refine acZ ?_ hN
    unfold Vn
    rw[←List.take_append_drop k RN,List.flatMap_append,aiC]
    simp
   obtain⟨HH,hHH⟩:∃HH,h.length=HH:=⟨_,rfl⟩
   have O0:OtI m HH RN b vs [] .nils h:=⟨h0,hHH▸I,by omega,⟨[],[],nH.none,rfl,by simp,by simp⟩,fun _ _ _ _ e=>by cases e⟩
   (have hb:=trivial;with_reducible repeat' (first|simp only[hb,Vc.down,seval,eE.down]|refine Aq ?_ ?_<;>intro hb|refine fd ?_|fail))
   refine Dl (Ss 72 RN (fun k (_:Unit) t h=>∃v,t 1=.ptr 0 0 0∧t 3=.slr 1 b 0 RN.length∧t 9=v∧t 10=.int .i64 k∧OtI m HH RN b vs (Vn (Ep m) (RN.take k)) v h) (fun _ _=>()) (fun _ e t h=>e=.exit 6∧∃v,t 9=v∧OtI m HH RN b vs (Vn (Ep m) RN) v h) ?_ ?_ () _ _ ?_) (fun e t h hk=>?_)
   ·rintro _ t h Q2 kQ2 ⟨v,c1,c3,c9,c10,O⟩
    rw[al5]at O
    (have hb:=trivial;with_reducible repeat' (first|simp only[hb,Vc.down,seval,eE.down,c3,c10,acG,decide_false]|refine Aq ?_ ?_<;>intro hb|refine fd ?_|fail))
    exact kQ2 _ _ _ ⟨rfl,v,by simp[up,c9],O⟩
   ·rintro r rest k _ t h J2 Q2 kJ2 kQ2 hx2 hk2 ⟨v,c1,c3,c9,c10,O⟩
    have hd2:((k:Int)<(RN.length:Int))=True:=eq_true (by omega)
    have hw2:=Av hk2 (show RN.length≤maxLen by unfold maxLen;omega)
    have htk2:Vn (Ep m) (RN.take (k+1))=Vn (Ep m) (RN.take k)++(Ep m).map fun c=>(r,c):=by rw[aiH,hx2];simp[Vn]
    have hlk:=hwl (k+1) (by omega)
    rw[htk2]at hlk
    obtain⟨u,hu⟩:∃u,vs[k]?=some u:=⟨_,atB (by rw[O.I.ln];omega)⟩
    (have hb:=trivial;with_reducible repeat' (first|simp only[hb,Vc.down,seval,eE.down,c3,c10,hd2]|refine Aq ?_ ?_<;>intro hb|refine fd ?_|fail))
    generalize hX0:Vn (Ep m) (RN.take k)=X0 at O hlk htk2
    refine Dl (Ss 72 (Ep m) (fun j (_:Unit) t h=>∃v,t 1=.ptr 0 0 0∧t 3=.slr 1 b 0 RN.length∧t 9=v∧t 10=.int .i64 k∧t 11=.int .i64 ((j:Int)-1)∧OtI m HH RN b vs (X0++((Ep m).take j).map fun c=>(r,c)) v h) (fun _ _=>()) (fun _ e t h=>e=.exit 8∧∃v,t 1=.ptr 0 0 0∧t 3=.slr 1 b 0 RN.length∧t 9=v∧t 10=.int .i64 k∧OtI m HH RN b vs (X0++(Ep m).map fun c=>(r,c)) v h) ?_ ?_ () _ _ ?_) (fun e t h hk=>?_)
    ·rintro _ t h Q3 kQ3 ⟨v,c1,c3,c9,c10,c11,O⟩
     rw[al5]at O
     obtain⟨x0,h0⟩:=O.h0
     have hdd:decide (((Ep m).length:Int)-1<m.cmds)=false:=decide_eq_false (by omega)
     (have hb:=trivial;with_reducible repeat' (first|simp only[hb,Vc.down,seval,eE.down,c1,c11,h0,hdd]|refine Aq ?_ ?_<;>intro hb|refine fd ?_|fail))
     exact kQ3 _ _ _ ⟨rfl,v,by simp[up,c1],by simp[up,c3],by simp[up,c9],by simp[up,c10],O⟩
    ·rintro c rest j _ t h J3 Q3 kJ3 kQ3 hx3 hk3 ⟨v,c1,c3,c9,c10,c11,O⟩
     obtain⟨x0,h0⟩:=O.h0
     have hce:=ad7 hx3
     have hdd:decide ((j:Int)-1<m.cmds)=true:=decide_eq_true (by omega)
     rw[←hce]at c11 hdd
     have hww:IntKind.i64.wrap (c+1)=c+1:=Ed (by omega) (by omega)
     have htk3:X0++((Ep m).take (j+1)).map (fun c=>(r,c))=(X0++((Ep m).take j).map (fun c=>(r,c)))++[(r,c)]:=by rw[aiH,hx3,ah3,←atA];rfl
     have hXl:(X0++((Ep m).take j).map fun c=>(r,c)).length≤4000:=by
      refine acZ ?_ hlk
      simp only[aiC,acE,apC]
      omega
     generalize X0++((Ep m).take j).map (fun c=>(r,c))=X at O htk3 hXl
     obtain⟨rows,Ro,L,l1,l2,l3⟩:=O.L
     obtain⟨xl,hls⟩:=O.I.ls
     have own':=L.own
     have hap:=fun(q:Ab) (r:List AV)=>fW own' (pre:=[]) rfl q r [] (by simp;omega)
     have hhp:=fun(q:Ab) (r:List (List AV)) (ba:Nat)=>jG own' (pre:=[]) rfl q 2 false r ba
     simp only[List.nil_append]at hap hhp
     rw[l1]at hap
     have hac:Am u=[u]:=by rcases(O.I.rw k u r hu hx2).1 with⟨rfl,_⟩|⟨d,x,rfl,_⟩<;>rfl
     have hic:u.isCell=true:=by rcases(O.I.rw k u r hu hx2).1 with⟨rfl,_⟩|⟨d,x,rfl,_⟩<;>rfl
     (have hb:=trivial;with_reducible repeat' (first|simp only[hb,Vc.down,seval,eE.down,c1,c3,c9,c10,c11,h0,hdd,hww,hls,hu,hd2,hac,hic,aiI,hap,hhp,acE]|refine Aq ?_ ?_<;>intro hb|refine fd ?_|fail))
     refine Ax (kJ3 _ _ () ⟨.slr 2 (h.length+1) 0 (X.length+1),by simp[up,c1],by simp[up,c3],by simp[up],by simp[up,c10],by simp[up]<;>omega,?_⟩ rfl)
     rw[htk3]
     exact O.snoc L l1 l2 l3 hu hx2 c _
    ·exact⟨v,by simp[up,c1],by simp[up,c3],by simp[up,c9],by simp[up,c10],by simp[up],by simpa using O⟩
    ·obtain⟨rfl,v,c1,c3,c9,c10,O⟩:=hk
     (have hb:=trivial;with_reducible repeat' (first|simp only[hb,Vc.down,seval,eE.down,c10,hw2]|refine Aq ?_ ?_<;>intro hb|refine fd ?_|fail))
     exact Ax (kJ2 _ _ () ⟨v,by simp[up,c1],by simp[up,c3],by simp[up,c9],by simp[up]<;>omega,by rw[htk2];exact O⟩ rfl)
   ·exact⟨.nils,by simp[up,c1],by simp[up,c3],by simp[up],by simp[up],by simpa [Vn]using O0⟩
   ·obtain⟨rfl,v,c9,O⟩:=hk
    obtain⟨rows,Ro,L,l1,l2,l3⟩:=O.L
    obtain⟨R,r1,_,r2⟩:=L.read
    (have hb:=trivial;with_reducible repeat' (first|simp only[hb,Vc.down,seval,eE.down,c9]|refine Aq ?_ ?_<;>intro hb|refine fd ?_|fail))
    refine hK _ ?_
    rw[fX]
    refine lC (vs:=[v]) (by simp only[Vc.down,seval,eE.down,c9]) (rR r1 (by omega) fun v' h' R' k1 k2 k3=>⟨v',R',rfl,k1,by omega,k3⟩)
 obtain⟨o,h',e,v,R,rfl,k1,k2,k3⟩:=key
 exact⟨v,h',R,e,k1,k2,k3⟩
def nod(y:Nat):Int × Int:=(((y / 11:Nat):Int),((y % 11:Nat):Int))
def Xh(v:Int × Int):Nat:=v.1.toNat*11+v.2.toNat
def Xr(m:Ad):Nat:=m.states.toNat*11
theorem cK{m:Ad}{v:Int × Int}(h:xN m v):nod (Xh v)=v:=by
 obtain⟨h1,h2,h3,h4⟩:=h
 unfold nod Xh
 have e1:(v.1.toNat*11+v.2.toNat) / 11=v.1.toNat:=by omega
 have e2:(v.1.toNat*11+v.2.toNat) % 11=v.2.toNat:=by omega
 rw[e1,e2]
 exact Prod.ext (by simp only;omega) (by simp only;omega)
theorem pI{m:Ad}{v:Int × Int}(h:xN m v):Xh v<Xr m:=by
 obtain⟨h1,h2,h3,h4⟩:=h
 unfold Xh Xr
 have:v.1.toNat+1≤m.states.toNat:=by omega
 have:=as9 11 this
 omega
theorem a6Q{m:Ad}{v:Int × Int}(h:xN m v):(Xh v:Int)=v.1*11+v.2:=by
 obtain⟨h1,h2,h3,h4⟩:=h
 unfold Xh;omega
theorem ag0{m:Ad}(hm:Bh m=true):Xr m≤88∧(Xr m:Int)=m.states*11∧11≤Xr m:=by
 have:=Ie hm
 unfold Xr;omega
theorem yL{y:Nat}:Xh (nod y)=y:=by
 unfold nod Xh;simp only[Int.toNat_natCast];omega
theorem aD7{y z:Nat}(h:nod y=nod z):y=z:=by rw[←yL (y:=y),h,yL]
def Ya(D:List ((Int × Int) × List Nat))(y:Nat):Option (List Nat):=eM D (nod y)
theorem jA(D:List ((Int × Int) × List Nat))(v:Int × Int)(p:List Nat)(w:Int × Int):eM (D++[(v,p)]) w=match eM D w with
 |some q=>some q
 |none=>if v=w then some p else none:=by
 unfold eM
 rw[List.find?_append]
 cases hf:D.find? fun x=>decide (x.1=w)with
 |some x=>simp
 |none=>
  by_cases e:v=w
  ·simp[e]
  ·simp[e]
theorem uN{D:List ((Int × Int) × List Nat)}{w:Int × Int}:eM D w=none↔w∉D.map (·.1):=by
 unfold eM
 rw[Option.map_eq_none_iff,List.find?_eq_none]
 constructor
 ·intro h hw
  obtain⟨x,hx,e⟩:=ao3.1 hw
  have:=h x hx
  simp[e]at this
 ·intro h x hx e
  simp only[decide_eq_true_eq]at e
  exact h (ao3.2 ⟨x,hx,e⟩)
def isT(m:Ad)(D:List ((Int × Int) × List Nat)):List Bool:=(al2 (Xr m)).map fun y=>(Ya D y).isSome
theorem gP(m:Ad)(D:List ((Int × Int) × List Nat)):(isT m D).length=Xr m:=by simp[isT]
theorem yV{m:Ad}(D:List ((Int × Int) × List Nat)){y:Nat}(h:y<Xr m):(isT m D)[y]?=some (Ya D y).isSome:=by
 unfold isT;rw[apH,anF h];rfl
theorem apR{m:Ad}{D:List ((Int × Int) × List Nat)}{v:Int × Int}(hv:xN m v)(hn:v∉D.map (·.1))(p:List Nat):isT m (D++[(v,p)])=(isT m D).set (Xh v) true:=by
 refine List.ext_getElem? fun i=>?_
 by_cases hi:i<Xr m
 ·rw[yV _ hi]
  by_cases e:Xh v=i
  ·subst e
   rw[atX (by rw[gP];exact hi)]
   unfold Ya
   rw[cK hv,jA,uN.2 hn]
   simp
  ·rw[apN e,yV _ hi]
   unfold Ya
   rw[jA]
   have:v≠nod i:=fun h=>e (by rw[h,yL])
   cases eM D (nod i)<;>simp[this]
 ·rw[avF (by rw[gP];omega),avF (by rw[al9,gP];omega)]
theorem atJ{m:Ad}{D:List ((Int × Int) × List Nat)}{v:Int × Int}(hv:xN m v)(hn:v∉D.map (·.1))(p:List Nat)(y:Nat):Ya (D++[(v,p)]) y=if y=Xh v then some p else Ya D y:=by
 unfold Ya
 by_cases e:y=Xh v
 ·subst e
  rw[if_pos rfl,cK hv,jA,uN.2 hn]
  simp
 ·rw[if_neg e,jA]
  have:v≠nod y:=fun h=>e (by rw[h,yL])
  cases eM D (nod y)<;>simp[this]
def PwB(h:Ab)(srow:Nat→List AV)(lo lb:Nat)(p:List Nat)(u:AV):Prop:=(u=.nils∧p=[])∨∃c x,u=.slr 2 c 0 p.length∧p≠[]∧h[c]?=some (.live 2 false x (p.map srow))∧lo≤c∧c≠lb
theorem PwB.keep{h h':Ab}{srow:Nat→List AV}{lo lb lb':Nat}{p:List Nat}{u:AV}(I:PwB h srow lo lb p u)(k:∀c,lo≤c→c<h.length→c≠lb→h'[c]?=h[c]?)(hb:h.length≤lb'∨lb'=lb):PwB h' srow lo lb' p u:=by
 rcases I with h1|⟨c,x,rfl,h2,h3,h4,h5⟩
 ·exact .inl h1
 ·have:=An h3
  exact .inr ⟨c,x,rfl,h2,by rw[k c h4 this h5];exact h3,h4,by omega⟩
structure PzH(m:Ad)(X:List (List Int × Int))(H1:Ab)(srow:Nat→List AV)(D:List ((Int × Int) × List Nat))(i j lb:Nat)(PS:List AV)(h:Ab):Prop where
 B:BF (fun v i=>Ww m v (gS X i)) X.length (m.bgn,0) D i j
 len:H1.length≤h.length
 kp:∀c,c<H1.length→c≠1→c≠2→h[c]?=H1[c]?
 ps:∃x,h[1]?=some (.live 1 false x (PS.map fun v=>[v]))
 pl:PS.length=Xr m
 pr:∀(y:Nat) (u:AV),PS[y]?=some u→PwB h srow H1.length lb ((Ya D y).getD []) u
 is_:∃x,h[2]?=some (.live 1 true x ((isT m D).map fun b=>[.bool b]))
 ln:∃x,h[lb]?=some (.live 1 true x (D.map fun x=>[.int .i64 (Xh x.1)]))
 lbl:H1.length≤lb
theorem PzH.new{m:Ad}{X:List (List Int × Int)}{H1:Ab}{srow:Nat→List AV}{D:List ((Int × Int) × List Nat)}{i j lb:Nat}{PS:List AV}{h:Ab}(F:PzH m X H1 srow D i j lb PS h){v:Int × Int}(hv:xN m v)(hn:v∉D.map (·.1)){p:List Nat}(B:BF (fun v i=>Ww m v (gS X i)) X.length (m.bgn,0) (D++[(v,p)]) i (j+1)){G:Ab}{u:AV}{lb':Nat}(hl:h.length≤G.length)(h3:3≤H1.length)(k:∀c,c<h.length→c≠1→c≠2→c≠lb→G[c]?=h[c]?)(g1:∃x,G[1]?=some (.live 1 false x ((PS.set (Xh v) u).map fun v=>[v])))(g2:∃x,G[2]?=some (.live 1 true x (((isT m D).set (Xh v) true).map fun b=>[.bool b])))(g3:∃x,G[lb']?=some (.live 1 true x (D.map (fun x=>[.int .i64 (Xh x.1)])++[[.int .i64 (Xh v)]])))(hlb:h.length≤lb')(hu:PwB G srow H1.length lb' p u):PzH m X H1 srow (D++[(v,p)]) i (j+1) lb' (PS.set (Xh v) u) G:=by
 obtain⟨_,len,kp,_,pl,pr,_,_,lbl⟩:=F
 refine⟨B,by omega,fun c c1 c2 c3=>by rw[k c (by omega) c2 c3 (by omega)];exact kp c c1 c2 c3,g1,by rw[al9,pl],fun y u' hu'=>?_,by rw[apR hv hn];exact g2,by simpa using g3,by omega⟩
 rw[atJ hv hn]
 by_cases e:y=Xh v
 ·subst e
  rw[atX (by rw[pl];exact pI hv)]at hu'
  cases hu'
  rw[if_pos rfl]
  exact hu
 ·rw[apN (fun h=>e h.symm)]at hu'
  rw[if_neg e]
  exact(pr y u' hu').keep (fun c c1 c2 c3=>k c c2 (by omega) (by omega) c3) (.inl hlb)
end Go.Proofs.Ytfkokgjfpojeoaa
