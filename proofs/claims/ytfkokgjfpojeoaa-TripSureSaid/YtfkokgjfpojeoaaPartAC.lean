/- The functions of the layer, walked. -/
import Derived.Test.YtfkokgjfpojeoaaPartAB
open List renaming length_map→afR,mem_of_getElem?→af1,exists_cons_of_ne_nil→agD,getElem?_eq_some_iff→agI
set_option linter.unusedSimpArgs false
set_option linter.unusedVariables false
namespace Go.Proofs.Ytfkokgjfpojeoaa
open Go.Ev Go
set_option maxRecDepth 100000
set_option maxHeartbeats 16000000
theorem jT{h:Aa}{b:Nat}(c:CB)(hb:b<h.length)(l:Aa):(h.set b c++l)[b]?=some c:=by
 rw[List.getElem?_append_left (by rw[List.length_set];exact hb),List.getElem?_set_self hb]
theorem gW(hk:Fg.call (.fn 13) [] []=some (.ret (.bool true),[]))(m:Ax)(vote val wrong:Int)(l:List Int)(nn:Bool)(hs:m.small)(hl:l.length≤maxLen):
 Fg.call (.fn 6) [.agg [Af 3 true m.nS (m.sens.map Bd.cells),Af 4 false m.nV (m.votes.map Ag.cells),Af 5 false m.nM (m.moves.map Am.cells),.int .i64 m.states,.int .i64 m.cmds,.int .i64 m.bgn,Af 1 true m.nO (m.opn.map iv)],.int .i64 vote,.int .i64 val,.int .i64 wrong,Af 1 true nn (l.map iv)] []=some (.ret (.bool true),[]):=by
 have h1:=uC m hs
 have hrb:=rK m vote hs
 have h3:=jW m hs
 have h4:=gX m (l:=l) (nn:=nn) hl
 have hkn:=hk
 cases c1:Xh m with
 |false=>
  rw[c1]at h1
  (refine ce Try.func6 ?_;simp only[Try.f6];(have hb:=trivial;with_reducible repeat' (first|simp only[hb,Vc.down,seval,Qf.down,h1,h3,h4,hk,afR]|refine Aw ?_ ?_<;>intro hb|refine fd ?_|fail)))
 |true=>
 rw[c1]at h1
 cases c2:Dk m with
 |false=>
  rw[c2]at h3
  (refine ce Try.func6 ?_;simp only[Try.f6];(have hb:=trivial;with_reducible repeat' (first|simp only[hb,Vc.down,seval,Qf.down,h1,h3,h4,hk,afR]|refine Aw ?_ ?_<;>intro hb|refine fd ?_|fail)))
 |true=>
 rw[c2]at h3
 cases d1:decide (vote<0)with
 |true=>
  (refine ce Try.func6 ?_;simp only[Try.f6];(have hb:=trivial;with_reducible repeat' (first|simp only[hb,Vc.down,seval,Qf.down,h1,h3,h4,hk,afR,d1]|refine Aw ?_ ?_<;>intro hb|refine fd ?_|fail)))
 |false=>
 cases d2:decide ((m.votes.length:Int)≤vote)with
 |true=>
  (refine ce Try.func6 ?_;simp only[Try.f6];(have hb:=trivial;with_reducible repeat' (first|simp only[hb,Vc.down,seval,Qf.down,h1,h3,h4,hk,afR,d1,d2]|refine Aw ?_ ?_<;>intro hb|refine fd ?_|fail)))
 |false=>
 cases c3:Ls m l with
 |false=>
  rw[c3]at h4
  (refine ce Try.func6 ?_;simp only[Try.f6];(have hb:=trivial;with_reducible repeat' (first|simp only[hb,Vc.down,seval,Qf.down,h1,h3,h4,hk,afR,d1,d2]|refine Aw ?_ ?_<;>intro hb|refine fd ?_|fail)))
 |true=>
 rw[c3]at h4
 cases d3:decide (wrong<0)with
 |true=>
  (refine ce Try.func6 ?_;simp only[Try.f6];(have hb:=trivial;with_reducible repeat' (first|simp only[hb,Vc.down,seval,Qf.down,h1,h3,h4,hk,afR,d1,d2,d3]|refine Aw ?_ ?_<;>intro hb|refine fd ?_|fail)))
 |false=>
 cases d4:decide (63<wrong)with
 |true=>
  (refine ce Try.func6 ?_;simp only[Try.f6];(have hb:=trivial;with_reducible repeat' (first|simp only[hb,Vc.down,seval,Qf.down,h1,h3,h4,hk,afR,d1,d2,d3,d4]|refine Aw ?_ ?_<;>intro hb|refine fd ?_|fail)))
 |false=>
 cases d5:decide (val < -10000)with
 |true=>
  (refine ce Try.func6 ?_;simp only[Try.f6];(have hb:=trivial;with_reducible repeat' (first|simp only[hb,Vc.down,seval,Qf.down,h1,h3,h4,hk,afR,d1,d2,d3,d4,d5]|refine Aw ?_ ?_<;>intro hb|refine fd ?_|fail)))
 |false=>
 cases d6:decide (10000<val)with
 |true=>
  (refine ce Try.func6 ?_;simp only[Try.f6];(have hb:=trivial;with_reducible repeat' (first|simp only[hb,Vc.down,seval,Qf.down,h1,h3,h4,hk,afR,d1,d2,d3,d4,d5,d6]|refine Aw ?_ ?_<;>intro hb|refine fd ?_|fail)))
 |false=>
 have e1:=of_decide_eq_false d1
 have e2:=of_decide_eq_false d2
 have e3:=of_decide_eq_false d3
 have e4:=of_decide_eq_false d4
 have e5:=of_decide_eq_false d5
 have e6:=of_decide_eq_false d6
 have hok:uH m vote=true:=zD c2 (by omega) (by omega)
 rw[if_pos hok]at hrb
 have o3:vote.toNat<m.votes.length:=by omega
 have hvv:=iW o3
 have hmem:=af1 hvv
 have hll:=Tc c3
 have hslen:=aJ c2 hmem
 have hneed:=aH c2 hmem
 have hI:=Ud c2 _ hmem
 have hs0:(fA m vote).sens≠[]:=fun e=>by rw[e]at hneed;simp at hneed;omega
 have hls:l≠[]:=by
  rintro rfl
  obtain⟨a,r,e⟩:=agD hs0
  have:=hI a (by rw[e];exact List.mem_cons_self ..)
  simp at hll;omega
 have h0':(0≤vote)=True:=eq_true (by omega)
 have hvl:(fA m vote).sens.length≤maxLen:=hs.vs _ hmem
 have hm6:m.sens.length≤6:=by
  simp only[Dk,Lh,Bool.and_eq_true,decide_eq_true_eq]at c2
  exact c2.1.1.1.1.1.1.1.1.1.1
 have hl39:(l.length≤549755813888)=True:=eq_true (by omega)
 have hlaw:=fun rs many work h=>qE (val:=val) (wrong:=wrong) (l:=l) (rs:=rs) (many:=many) (work:=work) c2 hmem c3 (by simp[Jm,Iw];omega) h
 have hrob:Wu m (fA m vote)=if Eh m (fA m vote).sens 0<(fA m vote).need then(-1,Eh m (fA m vote).sens 0)else(IntKind.i64.wrap (Eh m (fA m vote).sens 0-(fA m vote).need),IntKind.i64.wrap ((fA m vote).need-1)):=rfl
 obtain⟨a,b,hab⟩:∃a b,Wu m (fA m vote)=(a,b):=⟨_,_,rfl⟩
 rw[hab]at hrb
 generalize fA m vote=v at *
 have hslv:Af 1 true nn (l.map iv)=.imm 1 true (l.map iv):=by
  obtain⟨a,l',rfl⟩:=agD hls
  simp[Af]
 rw[hslv]at h4 ⊢
 have hlne:=fun h=>zO (h:=h) (n:=1) (nfl:=true) (rows:=l.map iv) (by simpa using hls) (by simpa using hl39)
 (refine ce Try.func6 ?_;simp only[Try.f6];(have hb:=trivial;with_reducible repeat' (first|simp only[hb,Vc.down,seval,Qf.down,h1,hrb,h3,h4,d1,d2,d3,d4,d5,d6,hvv,h0',hlne,Ag.cells,afR]|refine Aw ?_ ?_<;>intro hb|refine fd ?_|fail)))
 refine Ff (Xa 234 v.sens (fun i (zz:List Int × Int × Int) t h=>t 1=.int .i64 vote∧t 2=.int .i64 val∧t 3=.int .i64 wrong∧t 5=.ptr 0 0 0∧t 11=.ptr 1 0 0∧t 12=.int .i64 a∧t 13=.int .i64 b∧t 15=.slr 1 2 0 l.length∧t 18=.int .i64 i∧t 16=.int .i64 zz.2.1∧t 17=.int .i64 zz.2.2∧(∃w,h[0]?=some (.live 7 false false [[Af 3 true m.nS (m.sens.map Bd.cells),Af 4 false m.nV (m.votes.map Ag.cells),Af 5 false m.nM (m.moves.map Am.cells),.int .i64 m.states,.int .i64 m.cmds,.int .i64 m.bgn,Af 1 true m.nO (m.opn.map iv)]])∧h[1]?=some (.live 4 false true [[Af 1 true v.nn (v.sens.map iv),.int .i64 v.need,.int .i64 v.level,.bool v.above]])∧h[2]?=some (.live 1 true w (zz.1.map iv))∧zz.1.length=l.length)) (fun rest zz=>Kz m val wrong rest zz) (fun r e t h=>(r=none∧e=.ret∧t 10=.bool true)∨(∃s w,r=some s∧e=.exit 0∧t 1=.int .i64 vote∧t 2=.int .i64 val∧t 5=.ptr 0 0 0∧t 11=.ptr 1 0 0∧t 12=.int .i64 a∧t 13=.int .i64 b∧t 15=.slr 1 2 0 l.length∧t 16=.int .i64 s.2.1∧t 17=.int .i64 s.2.2∧h[0]?=some (.live 7 false false [[Af 3 true m.nS (m.sens.map Bd.cells),Af 4 false m.nV (m.votes.map Ag.cells),Af 5 false m.nM (m.moves.map Am.cells),.int .i64 m.states,.int .i64 m.cmds,.int .i64 m.bgn,Af 1 true m.nO (m.opn.map iv)]])∧h[1]?=some (.live 4 false true [[Af 1 true v.nn (v.sens.map iv),.int .i64 v.need,.int .i64 v.level,.bool v.above]])∧h[2]?=some (.live 1 true w (s.1.map iv)))) ?_ ?_ ((l,0,0)) _ _ ?_) (fun e t h hk=>?_)
 ·rintro s t h Q' kQ ⟨h1,h2,h3,h5,h11,h12,h13,h15,h18,h16,h17,⟨w,hA,hB,hC,hp⟩⟩
  (have hb:=trivial;with_reducible repeat' (first|simp only[hb,Vc.down,seval,Qf.down,h1,h2,h3,h5,h11,h12,h13,h15,h18,h16,h17,Int.lt_irrefl,decide_false,hA,hB,afR]|refine Aw ?_ ?_<;>intro hb|refine fd ?_|fail))
  exact kQ _ _ _ (.inr ⟨s,w,rfl,rfl,by simp[up,h1],by simp[up,h2],by simp[up,h5],by simp[up,h11],by simp[up,h12],by simp[up,h13],by simp[up,h15],by simp[up,h16],by simp[up,h17],hA,hB,hC⟩)
 ·rintro x rest i s t h J Q' kJ kQ hx hi ⟨h1,h2,h3,h5,h11,h12,h13,h15,h18,h16,h17,⟨w,hA,hB,hC,hp⟩⟩
  have hd:decide ((i:Int)<(v.sens.length:Int))=true:=decide_eq_true (by omega)
  have hw:=Av hi hvl
  obtain⟨k0,k1⟩:=hI x (af1 hx)
  have hxl:x<(l.length:Int):=by omega
  obtain⟨n,rfl⟩:∃n:Nat,x=(n:Int):=⟨x.toNat,by omega⟩
  have hA1:=Bc hA
  have hB1:=Bc hB
  have hC1:=Bc hC
  have hSA:=iY (h:=h) (b:=2) (agI.1 hC).1
  have h0n:(0≤(n:Int))=True:=eq_true k0
  have h1n:((n:Int)<(l.length:Int))=True:=eq_true hxl
  have h2n:(n<l.length)=True:=eq_true (by omega)
  have hss:=bY k1
  have hnn:((n:Int)).toNat=n:=by simp
  rw[hnn]at hss
  have hrow:s.1[n]?=some (dW s.1 n):=by
   have:=iL (l:=s.1) (k:=(n:Int)) (by omega)
   rw[hnn]at this
   exact this
  have hbt:(uP (lC wrong n)==1)=Fb wrong (n:Int):=by simp[Fb]
  cases q1:(Vs m (n:Int)).byp with
  |true=>
   (have hb:=trivial;with_reducible repeat' (first|simp only[hb,Vc.down,seval,Qf.down,h1,h2,h3,h5,h11,h12,h13,h15,h16,h17,h18,hd,hx,hw,hA,hB,hC,hA1,hB1,hC1,h0n,hss,iv,q1,Bd.cells,afR]|refine Aw ?_ ?_<;>intro hb|refine fd ?_|fail))
   (refine Bt (kJ _ _ s ⟨?_,?_,?_,?_,?_,?_,?_,?_,?_,?_,?_,⟨w,hA1 _,hB1 _,hC1 _,hp⟩⟩ ?_);(simp[up,h1]);(simp[up,h2]);(simp[up,h3]);(simp[up,h5]);(simp[up,h11]);(simp[up,h12]);(simp[up,h13]);(simp[up,h15]);(simp[up]);(simp[up,h16]);(simp[up,h17]);(simp[Kz,q1]))
  |false=>
  cases q2:Fb wrong (n:Int)with
  |true=>
   rw[q2]at hbt
   (have hb:=trivial;with_reducible repeat' (first|simp only[hb,Vc.down,seval,Qf.down,h1,h2,h3,h5,h11,h12,h13,h15,h16,h17,h18,hd,hx,hw,hA,hB,hC,hA1,hB1,hC1,h0n,hss,iv,q1,hbt,Bd.cells,afR]|refine Aw ?_ ?_<;>intro hb|refine fd ?_|fail))
   (refine Bt (kJ _ _ (s.1,IntKind.i64.wrap (s.2.1+1),IntKind.i64.wrap (s.2.2+1)) ⟨?_,?_,?_,?_,?_,?_,?_,?_,?_,?_,?_,⟨w,hA1 _,hB1 _,hC1 _,hp⟩⟩ ?_);(simp[up,h1]);(simp[up,h2]);(simp[up,h3]);(simp[up,h5]);(simp[up,h11]);(simp[up,h12]);(simp[up,h13]);(simp[up,h15]);(simp[up]);(simp[up,h16]);(simp[up,h17]);(simp[Kz,q1,q2]))
  |false=>
  rw[q2]at hbt
  cases q3:decide (val<(Vs m (n:Int)).lo)with
  |true=>
   have q5:Iw val (Vs m (n:Int)).lo (Vs m (n:Int)).hi=false:=by
    have:=of_decide_eq_true q3
    simp[Iw];omega
   (have hb:=trivial;with_reducible repeat' (first|simp only[hb,Vc.down,seval,Qf.down,h1,h2,h3,h5,h11,h12,h13,h15,h16,h17,h18,hd,hx,hw,hA,hB,hC,hA1,hB1,hC1,h0n,hss,iv,q1,hbt,q3,hk,Bd.cells,afR]|refine Aw ?_ ?_<;>intro hb|refine fd ?_|fail))
   exact kQ _ _ _ (.inl ⟨by simp[Kz,q1,q2,q5],rfl,by simp[up]⟩)
  |false=>
  cases q4:decide ((Vs m (n:Int)).hi<val)with
  |true=>
   have q5:Iw val (Vs m (n:Int)).lo (Vs m (n:Int)).hi=false:=by
    have:=of_decide_eq_true q4
    simp[Iw];omega
   (have hb:=trivial;with_reducible repeat' (first|simp only[hb,Vc.down,seval,Qf.down,h1,h2,h3,h5,h11,h12,h13,h15,h16,h17,h18,hd,hx,hw,hA,hB,hC,hA1,hB1,hC1,h0n,hss,iv,q1,hbt,q3,q4,hk,Bd.cells,afR]|refine Aw ?_ ?_<;>intro hb|refine fd ?_|fail))
   exact kQ _ _ _ (.inl ⟨by simp[Kz,q1,q2,q5],rfl,by simp[up]⟩)
  |false=>
   have q5:Iw val (Vs m (n:Int)).lo (Vs m (n:Int)).hi=true:=by
    have:=of_decide_eq_false q3
    have:=of_decide_eq_false q4
    simp[Iw];omega
   (have hb:=trivial;with_reducible repeat' (first|simp only[hb,Vc.down,seval,Qf.down,h1,h2,h3,h5,h11,h12,h13,h15,h16,h17,h18,hd,hx,hw,hA,hB,hC,hA1,hB1,hC1,hSA,h0n,h1n,h2n,hss,iv,q1,hbt,q3,q4,hp,hrow,Bd.cells,afR]|refine Aw ?_ ?_<;>intro hb|refine fd ?_|fail))
   (refine Bt (kJ _ _ (Vg s.1 n val,s.2.1,IntKind.i64.wrap (s.2.2+1)) ⟨?_,?_,?_,?_,?_,?_,?_,?_,?_,?_,?_,⟨true,bO _ (by omega) hA _,bO _ (by omega) hB _,by rw[jT _ (agI.1 hC).1,←qA];simp,by rw[Ju,hp]⟩⟩ ?_);(simp[up,h1]);(simp[up,h2]);(simp[up,h3]);(simp[up,h5]);(simp[up,h11]);(simp[up,h12]);(simp[up,h13]);(simp[up,h15]);(simp[up]);(simp[up,h16]);(simp[up,h17]);(simp[Kz,q1,q2,q5]))
 ·exact⟨by simp[up,Ef],by simp[up,Ef],by simp[up,Ef],by simp[up,Ef],by simp[up,Ef],by simp[up,Ef],by simp[up,Ef],by simp[up,Ef],by simp[up],by simp[up,Ef],by simp[up,Ef],⟨false,rfl,rfl,rfl,rfl⟩⟩
 rcases hk with⟨hr,rfl,h10⟩|⟨⟨rs,many,work⟩,w,hr,rfl,h1,h2,h5,h11,h12,h13,h15,h16,h17,hA,hB,hC⟩
 ·(have hb:=trivial;with_reducible repeat' (first|simp only[hb,Vc.down,seval,Qf.down,h10]|refine Aw ?_ ?_<;>intro hb|refine fd ?_|fail))
 obtain⟨hR,hwk,hw0,hw6,hL1,hL2⟩:=hlaw rs many work hr
 rw[hab]at hL1 hL2
 rw[hab,←hwk]at hrob
 simp only at hL1 hL2 h16 h17 hC
 have hrl:rs.length=l.length:=by rw[Tc hR,hll]
 have htk:(rs.map iv).take l.length=rs.map iv:=List.take_of_length_le (by simp[hrl])
 have hne:m.votes≠[]:=fun e=>by rw[e]at hmem;cases hmem
 have hV:=uG m (l:=rs) (nn:=true) hs c2 hR (by omega) _ _ (fun h=>(hne h).elim) (fun _=>rfl)
 rw[dZ]at hV
 obtain⟨y,hy⟩:∃y,Yw m rs v=y:=⟨_,rfl⟩
 rw[hy]at hL1 hL2
 have hA1:=Bc hA
 have hB1:=Bc hB
 have hlr:(l.length≤rs.length)=True:=eq_true (by omega)
 have h1v:(vote<(m.votes.length:Int))=True:=eq_true (by omega)
 have hnum:(work<v.need∧a= -1∧work=b)∨(¬work<v.need∧a=work-v.need∧b=v.need-1):=by
  split at hrob
  ·rename_i hq
   simp only[Prod.mk.injEq]at hrob
   exact .inl ⟨hq,hrob.1,hrob.2.symm⟩
  ·rename_i hq
   rw[Ar (by omega) (by omega),Ar (by omega) (by omega)]at hrob
   simp only[Prod.mk.injEq]at hrob
   exact .inr ⟨hq,hrob⟩
 have hmy:0≤many:=by
  have:=Is m v val wrong v.sens l 0 0 rs many work 0 (Yb c2 hmem) (fun k hk=>by have:=hI k hk;omega) (by omega) (by omega) (by omega) (by omega) (by omega) (by omega) hr
  exact this.2.1
 clear hrob hlaw hr
 cases q1:v.above with
 |true=>
  cases q2:decide (v.level≤val)with
  |true=>
   have hdd:Qh v val=true:=by simp only[Qh,q1,q2];simp
   have hL:=hL1 hdd
   cases q3:decide (many≤a)with
   |true=>
    obtain rfl:=hL (of_decide_eq_true q3)
    rcases hnum with⟨n1,rfl,rfl⟩|⟨n1,rfl,rfl⟩
    ·have w1:((-1:Int)== -1)=true:=rfl
     have w2:decide (work<v.need)=true:=by rw[decide_eq_true_eq];exact n1
     have w3:(work==work)=true:=by simp
     (have hb:=trivial;with_reducible repeat' (first|simp only[hb,Vc.down,seval,Qf.down,h1,h2,h5,h11,h12,h13,h15,h16,h17,hA,hB,hC,hA1,hB1,htk,hV,hvv,hy,hlr,h0',h1v,Dl,bv,q1,q2,q3,w1,w2,w3,hkn,Ag.cells,afR]|refine Aw ?_ ?_<;>intro hb|refine fd ?_|fail))
    ·have w1:((work-v.need:Int)== -1)=false:=by rw[beq_eq_false_iff_ne];omega
     have w2:decide (0≤work-v.need)=true:=by rw[decide_eq_true_eq];omega
     have w3:(IntKind.i64.wrap (work-(work-v.need))==v.need)=true:=by rw[Ar (by omega) (by omega),beq_iff_eq];omega
     have w4:((v.need-1:Int)==work)=false:=by rw[beq_eq_false_iff_ne];omega
     have w5:((v.need-1:Int)==IntKind.i64.wrap (v.need-1))=true:=by rw[Ar (by omega) (by omega),beq_iff_eq]
     have w6:decide (v.need-1<work)=true:=by rw[decide_eq_true_eq];omega
     (have hb:=trivial;with_reducible repeat' (first|simp only[hb,Vc.down,seval,Qf.down,h1,h2,h5,h11,h12,h13,h15,h16,h17,hA,hB,hC,hA1,hB1,htk,hV,hvv,hy,hlr,h0',h1v,Dl,bv,q1,q2,q3,w1,w2,w3,w4,w5,w6,hkn,Ag.cells,afR]|refine Aw ?_ ?_<;>intro hb|refine fd ?_|fail))
   |false=>
    rcases hnum with⟨n1,rfl,rfl⟩|⟨n1,rfl,rfl⟩
    ·have w1:((-1:Int)== -1)=true:=rfl
     have w2:decide (work<v.need)=true:=by rw[decide_eq_true_eq];exact n1
     have w3:(work==work)=true:=by simp
     (have hb:=trivial;with_reducible repeat' (first|simp only[hb,Vc.down,seval,Qf.down,h1,h2,h5,h11,h12,h13,h15,h16,h17,hA,hB,hC,hA1,hB1,htk,hV,hvv,hy,hlr,h0',h1v,Dl,bv,q1,q2,q3,w1,w2,w3,hkn,Ag.cells,afR]|refine Aw ?_ ?_<;>intro hb|refine fd ?_|fail))
    ·have w1:((work-v.need:Int)== -1)=false:=by rw[beq_eq_false_iff_ne];omega
     have w2:decide (0≤work-v.need)=true:=by rw[decide_eq_true_eq];omega
     have w3:(IntKind.i64.wrap (work-(work-v.need))==v.need)=true:=by rw[Ar (by omega) (by omega),beq_iff_eq];omega
     have w4:((v.need-1:Int)==work)=false:=by rw[beq_eq_false_iff_ne];omega
     have w5:((v.need-1:Int)==IntKind.i64.wrap (v.need-1))=true:=by rw[Ar (by omega) (by omega),beq_iff_eq]
     have w6:decide (v.need-1<work)=true:=by rw[decide_eq_true_eq];omega
     (have hb:=trivial;with_reducible repeat' (first|simp only[hb,Vc.down,seval,Qf.down,h1,h2,h5,h11,h12,h13,h15,h16,h17,hA,hB,hC,hA1,hB1,htk,hV,hvv,hy,hlr,h0',h1v,Dl,bv,q1,q2,q3,w1,w2,w3,w4,w5,w6,hkn,Ag.cells,afR]|refine Aw ?_ ?_<;>intro hb|refine fd ?_|fail))
  |false=>
   have hdd:Qh v val=false:=by simp only[Qh,q1,q2];simp
   have hL:=hL2 hdd
   cases q3:decide (many≤b)with
   |true=>
    obtain rfl:=hL (of_decide_eq_true q3)
    rcases hnum with⟨n1,rfl,rfl⟩|⟨n1,rfl,rfl⟩
    ·have w1:((-1:Int)== -1)=true:=rfl
     have w2:decide (work<v.need)=true:=by rw[decide_eq_true_eq];exact n1
     have w3:(work==work)=true:=by simp
     (have hb:=trivial;with_reducible repeat' (first|simp only[hb,Vc.down,seval,Qf.down,h1,h2,h5,h11,h12,h13,h15,h16,h17,hA,hB,hC,hA1,hB1,htk,hV,hvv,hy,hlr,h0',h1v,Dl,bv,q1,q2,q3,w1,w2,w3,hkn,Ag.cells,afR]|refine Aw ?_ ?_<;>intro hb|refine fd ?_|fail))
    ·have w1:((work-v.need:Int)== -1)=false:=by rw[beq_eq_false_iff_ne];omega
     have w2:decide (0≤work-v.need)=true:=by rw[decide_eq_true_eq];omega
     have w3:(IntKind.i64.wrap (work-(work-v.need))==v.need)=true:=by rw[Ar (by omega) (by omega),beq_iff_eq];omega
     have w4:((v.need-1:Int)==work)=false:=by rw[beq_eq_false_iff_ne];omega
     have w5:((v.need-1:Int)==IntKind.i64.wrap (v.need-1))=true:=by rw[Ar (by omega) (by omega),beq_iff_eq]
     have w6:decide (v.need-1<work)=true:=by rw[decide_eq_true_eq];omega
     (have hb:=trivial;with_reducible repeat' (first|simp only[hb,Vc.down,seval,Qf.down,h1,h2,h5,h11,h12,h13,h15,h16,h17,hA,hB,hC,hA1,hB1,htk,hV,hvv,hy,hlr,h0',h1v,Dl,bv,q1,q2,q3,w1,w2,w3,w4,w5,w6,hkn,Ag.cells,afR]|refine Aw ?_ ?_<;>intro hb|refine fd ?_|fail))
   |false=>
    rcases hnum with⟨n1,rfl,rfl⟩|⟨n1,rfl,rfl⟩
    ·have w1:((-1:Int)== -1)=true:=rfl
     have w2:decide (work<v.need)=true:=by rw[decide_eq_true_eq];exact n1
     have w3:(work==work)=true:=by simp
     (have hb:=trivial;with_reducible repeat' (first|simp only[hb,Vc.down,seval,Qf.down,h1,h2,h5,h11,h12,h13,h15,h16,h17,hA,hB,hC,hA1,hB1,htk,hV,hvv,hy,hlr,h0',h1v,Dl,bv,q1,q2,q3,w1,w2,w3,hkn,Ag.cells,afR]|refine Aw ?_ ?_<;>intro hb|refine fd ?_|fail))
    ·have w1:((work-v.need:Int)== -1)=false:=by rw[beq_eq_false_iff_ne];omega
     have w2:decide (0≤work-v.need)=true:=by rw[decide_eq_true_eq];omega
     have w3:(IntKind.i64.wrap (work-(work-v.need))==v.need)=true:=by rw[Ar (by omega) (by omega),beq_iff_eq];omega
     have w4:((v.need-1:Int)==work)=false:=by rw[beq_eq_false_iff_ne];omega
     have w5:((v.need-1:Int)==IntKind.i64.wrap (v.need-1))=true:=by rw[Ar (by omega) (by omega),beq_iff_eq]
     have w6:decide (v.need-1<work)=true:=by rw[decide_eq_true_eq];omega
     (have hb:=trivial;with_reducible repeat' (first|simp only[hb,Vc.down,seval,Qf.down,h1,h2,h5,h11,h12,h13,h15,h16,h17,hA,hB,hC,hA1,hB1,htk,hV,hvv,hy,hlr,h0',h1v,Dl,bv,q1,q2,q3,w1,w2,w3,w4,w5,w6,hkn,Ag.cells,afR]|refine Aw ?_ ?_<;>intro hb|refine fd ?_|fail))
 |false=>
  cases q2:decide (val≤v.level)with
  |true=>
   have hdd:Qh v val=true:=by simp only[Qh,q1,q2];simp
   have hL:=hL1 hdd
   cases q3:decide (many≤a)with
   |true=>
    obtain rfl:=hL (of_decide_eq_true q3)
    rcases hnum with⟨n1,rfl,rfl⟩|⟨n1,rfl,rfl⟩
    ·have w1:((-1:Int)== -1)=true:=rfl
     have w2:decide (work<v.need)=true:=by rw[decide_eq_true_eq];exact n1
     have w3:(work==work)=true:=by simp
     (have hb:=trivial;with_reducible repeat' (first|simp only[hb,Vc.down,seval,Qf.down,h1,h2,h5,h11,h12,h13,h15,h16,h17,hA,hB,hC,hA1,hB1,htk,hV,hvv,hy,hlr,h0',h1v,Dl,bv,q1,q2,q3,w1,w2,w3,hkn,Ag.cells,afR]|refine Aw ?_ ?_<;>intro hb|refine fd ?_|fail))
    ·have w1:((work-v.need:Int)== -1)=false:=by rw[beq_eq_false_iff_ne];omega
     have w2:decide (0≤work-v.need)=true:=by rw[decide_eq_true_eq];omega
     have w3:(IntKind.i64.wrap (work-(work-v.need))==v.need)=true:=by rw[Ar (by omega) (by omega),beq_iff_eq];omega
     have w4:((v.need-1:Int)==work)=false:=by rw[beq_eq_false_iff_ne];omega
     have w5:((v.need-1:Int)==IntKind.i64.wrap (v.need-1))=true:=by rw[Ar (by omega) (by omega),beq_iff_eq]
     have w6:decide (v.need-1<work)=true:=by rw[decide_eq_true_eq];omega
     (have hb:=trivial;with_reducible repeat' (first|simp only[hb,Vc.down,seval,Qf.down,h1,h2,h5,h11,h12,h13,h15,h16,h17,hA,hB,hC,hA1,hB1,htk,hV,hvv,hy,hlr,h0',h1v,Dl,bv,q1,q2,q3,w1,w2,w3,w4,w5,w6,hkn,Ag.cells,afR]|refine Aw ?_ ?_<;>intro hb|refine fd ?_|fail))
   |false=>
    rcases hnum with⟨n1,rfl,rfl⟩|⟨n1,rfl,rfl⟩
    ·have w1:((-1:Int)== -1)=true:=rfl
     have w2:decide (work<v.need)=true:=by rw[decide_eq_true_eq];exact n1
     have w3:(work==work)=true:=by simp
     (have hb:=trivial;with_reducible repeat' (first|simp only[hb,Vc.down,seval,Qf.down,h1,h2,h5,h11,h12,h13,h15,h16,h17,hA,hB,hC,hA1,hB1,htk,hV,hvv,hy,hlr,h0',h1v,Dl,bv,q1,q2,q3,w1,w2,w3,hkn,Ag.cells,afR]|refine Aw ?_ ?_<;>intro hb|refine fd ?_|fail))
    ·have w1:((work-v.need:Int)== -1)=false:=by rw[beq_eq_false_iff_ne];omega
     have w2:decide (0≤work-v.need)=true:=by rw[decide_eq_true_eq];omega
     have w3:(IntKind.i64.wrap (work-(work-v.need))==v.need)=true:=by rw[Ar (by omega) (by omega),beq_iff_eq];omega
     have w4:((v.need-1:Int)==work)=false:=by rw[beq_eq_false_iff_ne];omega
     have w5:((v.need-1:Int)==IntKind.i64.wrap (v.need-1))=true:=by rw[Ar (by omega) (by omega),beq_iff_eq]
     have w6:decide (v.need-1<work)=true:=by rw[decide_eq_true_eq];omega
     (have hb:=trivial;with_reducible repeat' (first|simp only[hb,Vc.down,seval,Qf.down,h1,h2,h5,h11,h12,h13,h15,h16,h17,hA,hB,hC,hA1,hB1,htk,hV,hvv,hy,hlr,h0',h1v,Dl,bv,q1,q2,q3,w1,w2,w3,w4,w5,w6,hkn,Ag.cells,afR]|refine Aw ?_ ?_<;>intro hb|refine fd ?_|fail))
  |false=>
   have hdd:Qh v val=false:=by simp only[Qh,q1,q2];simp
   have hL:=hL2 hdd
   cases q3:decide (many≤b)with
   |true=>
    obtain rfl:=hL (of_decide_eq_true q3)
    rcases hnum with⟨n1,rfl,rfl⟩|⟨n1,rfl,rfl⟩
    ·have w1:((-1:Int)== -1)=true:=rfl
     have w2:decide (work<v.need)=true:=by rw[decide_eq_true_eq];exact n1
     have w3:(work==work)=true:=by simp
     (have hb:=trivial;with_reducible repeat' (first|simp only[hb,Vc.down,seval,Qf.down,h1,h2,h5,h11,h12,h13,h15,h16,h17,hA,hB,hC,hA1,hB1,htk,hV,hvv,hy,hlr,h0',h1v,Dl,bv,q1,q2,q3,w1,w2,w3,hkn,Ag.cells,afR]|refine Aw ?_ ?_<;>intro hb|refine fd ?_|fail))
    ·have w1:((work-v.need:Int)== -1)=false:=by rw[beq_eq_false_iff_ne];omega
     have w2:decide (0≤work-v.need)=true:=by rw[decide_eq_true_eq];omega
     have w3:(IntKind.i64.wrap (work-(work-v.need))==v.need)=true:=by rw[Ar (by omega) (by omega),beq_iff_eq];omega
     have w4:((v.need-1:Int)==work)=false:=by rw[beq_eq_false_iff_ne];omega
     have w5:((v.need-1:Int)==IntKind.i64.wrap (v.need-1))=true:=by rw[Ar (by omega) (by omega),beq_iff_eq]
     have w6:decide (v.need-1<work)=true:=by rw[decide_eq_true_eq];omega
     (have hb:=trivial;with_reducible repeat' (first|simp only[hb,Vc.down,seval,Qf.down,h1,h2,h5,h11,h12,h13,h15,h16,h17,hA,hB,hC,hA1,hB1,htk,hV,hvv,hy,hlr,h0',h1v,Dl,bv,q1,q2,q3,w1,w2,w3,w4,w5,w6,hkn,Ag.cells,afR]|refine Aw ?_ ?_<;>intro hb|refine fd ?_|fail))
   |false=>
    rcases hnum with⟨n1,rfl,rfl⟩|⟨n1,rfl,rfl⟩
    ·have w1:((-1:Int)== -1)=true:=rfl
     have w2:decide (work<v.need)=true:=by rw[decide_eq_true_eq];exact n1
     have w3:(work==work)=true:=by simp
     (have hb:=trivial;with_reducible repeat' (first|simp only[hb,Vc.down,seval,Qf.down,h1,h2,h5,h11,h12,h13,h15,h16,h17,hA,hB,hC,hA1,hB1,htk,hV,hvv,hy,hlr,h0',h1v,Dl,bv,q1,q2,q3,w1,w2,w3,hkn,Ag.cells,afR]|refine Aw ?_ ?_<;>intro hb|refine fd ?_|fail))
    ·have w1:((work-v.need:Int)== -1)=false:=by rw[beq_eq_false_iff_ne];omega
     have w2:decide (0≤work-v.need)=true:=by rw[decide_eq_true_eq];omega
     have w3:(IntKind.i64.wrap (work-(work-v.need))==v.need)=true:=by rw[Ar (by omega) (by omega),beq_iff_eq];omega
     have w4:((v.need-1:Int)==work)=false:=by rw[beq_eq_false_iff_ne];omega
     have w5:((v.need-1:Int)==IntKind.i64.wrap (v.need-1))=true:=by rw[Ar (by omega) (by omega),beq_iff_eq]
     have w6:decide (v.need-1<work)=true:=by rw[decide_eq_true_eq];omega
     (have hb:=trivial;with_reducible repeat' (first|simp only[hb,Vc.down,seval,Qf.down,h1,h2,h5,h11,h12,h13,h15,h16,h17,hA,hB,hC,hA1,hB1,htk,hV,hvv,hy,hlr,h0',h1v,Dl,bv,q1,q2,q3,w1,w2,w3,w4,w5,w6,hkn,Ag.cells,afR]|refine Aw ?_ ?_<;>intro hb|refine fd ?_|fail))
theorem gA(hk:Fg.call (.fn 13) [] []=some (.ret (.bool true),[])):∀avs,kR Try.prog 7 Try.f6.params.toList avs→Fg.call (.fn 6) avs []=some (.ret (.bool true),[]):=by
 intro avs h
 rw[show Try.f6.params.toList=[27,3,3,3,25]from rfl]at h
 match avs,h with
 | [a,b,c,d,e],h=>
   obtain⟨h1,h2,h3,h4,h5,_⟩:=h
   obtain⟨s,rfl,hs⟩:=tM h1
   obtain⟨x,rfl,_⟩:=fB h2
   obtain⟨y,rfl,_⟩:=fB h3
   obtain⟨z,rfl,_⟩:=fB h4
   obtain⟨nn,l,rfl,hl,_⟩:=uD h5
   exact gW hk s x y z l nn hs hl
 | [],h=>exact h.elim
 | [_],h=>exact h.2.elim
 | [_,_],h=>exact h.2.2.elim
 | [_,_,_],h=>exact h.2.2.2.elim
 | [_,_,_,_],h=>exact h.2.2.2.2.elim
 |_::_::_::_::_::_::_,h=>exact h.2.2.2.2.2.elim
end Go.Proofs.Ytfkokgjfpojeoaa
