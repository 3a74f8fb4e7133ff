/- The functions of the layer, walked. -/
import Derived.Test.YtfkokgjfpojeoaaPartAB
open List renaming length_map→aaT,length_cons→abB,getElem?_map→abG,all_eq_true→abJ,mem_of_getElem?→abS,exists_cons_of_ne_nil→abZ,take_of_length_le→acF
open Bool renaming and_eq_true→aa7
open Option renaming map_some→abE
set_option linter.unusedSimpArgs false
set_option linter.unusedVariables false
namespace Go.Proofs.Ytfkokgjfpojeoaa
open Go.Ev Go
set_option maxRecDepth 100000
set_option maxHeartbeats 16000000
def bbS(s:sF):sF:=⟨s.lo,s.hi,true⟩
def acH(m:jR)(k:Int):jR:={ m with nS:=true,sens:=m.sens.set k.toNat (bbS (sAt m k)) }
theorem aST{m:jR}(hs:m.small)(k:Int):(acH m k).small:=⟨by simpa [acH]using hs.sens,hs.votes,hs.moves,hs.opn,hs.vs,hs.ws⟩
theorem a1N{m:jR}{k:Int}(hm:aaP m=true)(hk:k.toNat<m.sens.length):aaP (acH m k)=true:=by
 have hl:(acH m k).sens.length=m.sens.length:=by simp[acH]
 simp only[aaP,afQ,aa7,hl]at hm ⊢
 obtain⟨⟨⟨⟨h1,h2⟩,h3⟩,h4⟩,h5⟩:=hm
 refine⟨⟨⟨⟨h1,?_⟩,h3⟩,h4⟩,h5⟩
 rw[abJ]at h2 ⊢
 intro s hs
 rcases List.mem_or_eq_of_mem_set hs with h6|rfl
 ·exact h2 s h6
 ·have:=h2 _ (abS (aUE hk))
  exact this
theorem a35{m:jR}{k:Int}(hk:k.toNat<m.sens.length)(j:Int):sAt (acH m k) j=if j.toNat=k.toNat then bbS (sAt m k)else sAt m j:=by
 unfold acH
 simp only[sAt,List.getD]
 split
 ·rename_i h;rw[h,List.getElem?_set_self hk];rfl
 ·rename_i h;rw[List.getElem?_set_ne (fun e=>h e.symm)]
theorem aZN{m:jR}{k:Int}(hk:k.toNat<m.sens.length)(v:aS)(j r:Int):aQP (sAt (acH m k) j) v r=true→aQP (sAt m j) v r=true:=by
 rw[a35 hk]
 split
 ·intro h;simp[aQP,bbS]at h
 ·exact id
theorem aNM{m:jR}{k:Int}(hk:k.toNat<m.sens.length)(v:aS)(l:List Int):∀(ks:List Int) (c d:Int),0≤c→c≤d→d+ks.length≤1000→aRB (acH m k) v l ks c≤aRB m v l ks d
 | [],c,d,_,h,_=>h
 |x::ks,c,d,h0,h1,h2=>by
  simp only[abB]at h2
  unfold aRB
  have:=aZN hk v x (rAt l x)
  rw[ac8 (by omega) (by omega),ac8 (by omega) (by omega)]
  cases e1:aQP (sAt (acH m k) x) v (rAt l x)with
  |true=>
   rw[this e1,if_pos rfl,if_pos rfl]
   exact aNM hk v l ks _ _ (by omega) (by omega) (by omega)
  |false=>
   rw[if_neg (by simp)]
   split
   ·exact aNM hk v l ks _ _ (by omega) (by omega) (by omega)
   ·exact aNM hk v l ks _ _ (by omega) (by omega) (by omega)
theorem a4X{m:jR}{k:Int}(hm:aaP m=true)(hk:k.toNat<m.sens.length){v:aS}(hv:v∈m.votes)(l:List Int)(h:adW (acH m k) l v=true):adW m l v=true:=by
 have h6:=a0I hm hv
 have:=aNM hk v l v.sens 0 0 (by omega) (by omega) (by omega)
 simp only[adW,decide_eq_true_eq]at h ⊢
 omega
theorem aT6(m:jR)(k:Int)(l:List Int):azC (acH m k) l=azC m l:=by
 have hl:(acH m k).sens.length=m.sens.length:=by simp[acH]
 simp only[azC,hl]
def ay6(m:jR)(st:Int)(b:Bool):jR:={ m with nM:=true,moves:=⟨st,IntKind.i64.wrap (m.states-1),true,[⟨0,b⟩],-1,0⟩::m.moves }
theorem aXG{m:jR}(hs:m.small)(hl:m.moves.length<20)(st:Int)(b:Bool):(ay6 m st b).small:=⟨hs.sens,hs.votes,by simp only[ay6,abB];unfold maxLen;omega,hs.opn,hs.vs,fun x hx=>by
 rcases List.mem_cons.1 hx with rfl|hx
 ·simp[maxLen]
 ·exact hs.ws x hx⟩
theorem a0D{m:jR}{st:Int}{b:Bool}(hm:aaP m=true)(hl:m.moves.length<20)(h0:0≤st)(h1:st<m.states)(hv:m.votes≠[]):aaP (ay6 m st b)=true:=by
 have hst:=aY9 hm
 have h6:=aPF hm
 have hvl:0<m.votes.length:=List.length_pos_iff.2 hv
 have hmv:∀x,ae0 (ay6 m st b) x=ae0 m x:=fun _=>rfl
 simp only[aaP,afQ,aa7,inB,decide_eq_true_eq,beq_iff_eq]at hm ⊢
 obtain⟨⟨⟨⟨⟨⟨⟨⟨⟨⟨a1,a2⟩,a3⟩,a4⟩,a5⟩,a6⟩,a7⟩,h2⟩,h3⟩,h4⟩,h5⟩:=hm
 refine⟨⟨⟨⟨⟨⟨⟨⟨⟨⟨a1,a2⟩,by simp only[ay6,abB];omega⟩,a4⟩,a5⟩,a6⟩,a7⟩,h2⟩,h3⟩,?_⟩,h5⟩
 simp only[abJ]at h4 ⊢
 intro x hx
 rw[hmv]
 rcases List.mem_cons.1 hx with rfl|hx
 ·simp only[ae0,aeD,inB,aa7,decide_eq_true_eq,List.any_nil,Bool.not_false,abB,List.length_nil]
  rw[ac8 (by omega) (by omega),ac8 (by omega) (by omega),ac8 (by omega) (by omega)]
  refine⟨⟨⟨⟨⟨⟨⟨⟨by omega,by omega⟩,trivial⟩,trivial⟩,by omega,by omega⟩,by omega,by omega⟩,by omega⟩,by omega,by omega⟩,by omega,by omega⟩
 ·exact h4 x hx
theorem aUB(m:jR)(st:Int)(b:Bool)(v:aS)(l:List Int):∀ks c,aRB (ay6 m st b) v l ks c=aRB m v l ks c
 | [],_=>rfl
 |k::ks,c=>by unfold aRB;exact aUB m st b v l ks _
theorem a5T(m:jR)(st:Int)(b:Bool)(l:List Int):adW (ay6 m st b) l=adW m l:=by
 funext v;simp only[adW,aUB]
theorem a0M{m:jR}{st ag:Int}{y:axQ}(hm:aaP m=true){v0:aS}(hv:m.votes[0]?=some v0):aLN (ay6 m st (!adW m y.reads v0)) st ag y=aLN m st ag y:=by
 have h6:=aPF hm
 have hl:0<m.votes.length:=(List.getElem?_eq_some_iff.1 hv).1
 have hb:=a5C (m.votes.map (adW m y.reads)) (by simpa using h6) 0 (by simpa using hl)
 rw[abG,hv,←aPL]at hb
 simp only[abE,Option.some.injEq]at hb
 have e:∀vs i b,aeR (ay6 m st (!adW m y.reads v0)) y.reads vs i b=aeR m y.reads vs i b:=fun _ _ _=>by rw[aPL,aPL,a5T]
 unfold aLN
 rw[e]
 show aOM st ag _ y.cmd ((⟨st,_,true,[⟨0,_⟩],-1,0⟩:Zw)::m.moves)=_
 rw[aOM]
 have hap:aXH (nd ⟨st,IntKind.i64.wrap (m.states-1),true,[⟨0,!adW m y.reads v0⟩],-1,0⟩ st ag (aeR m y.reads m.votes 0 0) y.cmd)=false:=by
  simp only[aXH,nd,aRJ,List.all_cons,List.all_nil,Bool.and_true]
  have:ac7 (aeR m y.reads m.votes 0 0) 0=adW m y.reads v0:=hb.symm
  rw[this]
  cases adW m y.reads v0<;>simp
 show(if aXH (nd ⟨st,IntKind.i64.wrap (m.states-1),true,[⟨0,!adW m y.reads v0⟩],-1,0⟩ st ag (aeR m y.reads m.votes 0 0) y.cmd)=true then _ else _)=_
 rw[hap]
 rfl
theorem a96{n:Nat}{h:Gq}{nfl:Bool}{a b r len:Nat}{rows:List (List AV)}(hr:rows≠[]):apK n h (some (.slr a b r len)) (some (nfl,rows))=apS n h.length b r len nfl rows (h[b]?):=by
 obtain⟨x,l,rfl⟩:=abZ hr
 rfl
theorem aNR{α β:Type}(f:α→Option β)(a:α)(l:List α):sU f (a::l)=(f a).bind fun b=>(sU f l).map fun r=>b::r:=by
 simp only[sU]
theorem aN3(g:HF):∀l:List Zw,sU (sU (aaU 10 g)) (l.map Zw.cells)=some (l.map Zw.cells)
 | []=>rfl
 |x::l=>by
  rw[List.map_cons,aNR,aN3 g l]
  have:sU (aaU 10 g) x.cells=some x.cells:=by
   simp only[Zw.cells,aNR,a2Y,a85,Option.bind_some,sU,abE]
  rw[this];rfl
theorem a2M(h:Gq)(b:Bool)(hg:h[7]?=some (.live 2 true false [[.int .i64 0,.bool b]])):aaU 10 (hf h) (.slr 2 7 0 1)=some (.imm 2 true [[.int .i64 0,.bool b]]):=by
 simp[aaU,aa9,hf,hg]
theorem aXT(hk:om'.call (.fn 13) [] []=some (.ret (.bool true),[]))(m:jR)(st ag sen:Int)(y:axQ)(hs:m.small)(hl:y.reads.length≤maxLen):
 om'.call (.fn 7) [.agg [Rr 3 true m.nS (m.sens.map sF.cells),Rr 4 false m.nV (m.votes.map aS.cells),Rr 5 false m.nM (m.moves.map Zw.cells),.int .i64 m.states,.int .i64 m.cmds,.int .i64 m.bgn,Rr 1 true m.nO (m.opn.map iv)],.int .i64 st,.int .i64 ag,.agg [Rr 1 true y.nn (y.reads.map iv),.int .i64 y.cmd],.int .i64 sen] []=some (.ret (.bool true),[]):=by
 have h1:=a6D m hs
 have h3:=aZV m hs
 have h4:=baP m y hl
 have hkn:=hk
 cases c1:aRX m with
 |false=>
  rw[c1]at h1
  (refine ce Try.func7 ?_;simp only[Try.f7];(have hb:=trivial;with_reducible repeat' (first|simp only[hb,Vc.down,seval,TY7.down,h1,h3,h4,hk,aaT]|refine tQ ?_ ?_<;>intro hb|refine fd ?_|fail)))
 |true=>
 rw[c1]at h1
 cases c2:aaP m with
 |false=>
  rw[c2]at h3
  (refine ce Try.func7 ?_;simp only[Try.f7];(have hb:=trivial;with_reducible repeat' (first|simp only[hb,Vc.down,seval,TY7.down,h1,h3,h4,hk,aaT]|refine tQ ?_ ?_<;>intro hb|refine fd ?_|fail)))
 |true=>
 rw[c2]at h3
 cases c3:aO4 m y with
 |false=>
  rw[c3]at h4
  (refine ce Try.func7 ?_;simp only[Try.f7];(have hb:=trivial;with_reducible repeat' (first|simp only[hb,Vc.down,seval,TY7.down,h1,h3,h4,hk,aaT]|refine tQ ?_ ?_<;>intro hb|refine fd ?_|fail)))
 |true=>
 rw[c3]at h4
 cases d1:decide (st<0)with
 |true=>
  (refine ce Try.func7 ?_;simp only[Try.f7];(have hb:=trivial;with_reducible repeat' (first|simp only[hb,Vc.down,seval,TY7.down,h1,h3,h4,hk,aaT,d1]|refine tQ ?_ ?_<;>intro hb|refine fd ?_|fail)))
 |false=>
 cases d2:decide (m.states≤st)with
 |true=>
  (refine ce Try.func7 ?_;simp only[Try.f7];(have hb:=trivial;with_reducible repeat' (first|simp only[hb,Vc.down,seval,TY7.down,h1,h3,h4,hk,aaT,d1,d2]|refine tQ ?_ ?_<;>intro hb|refine fd ?_|fail)))
 |false=>
 cases d3:decide (ag<0)with
 |true=>
  (refine ce Try.func7 ?_;simp only[Try.f7];(have hb:=trivial;with_reducible repeat' (first|simp only[hb,Vc.down,seval,TY7.down,h1,h3,h4,hk,aaT,d1,d2,d3]|refine tQ ?_ ?_<;>intro hb|refine fd ?_|fail)))
 |false=>
 cases d4:decide (10<ag)with
 |true=>
  (refine ce Try.func7 ?_;simp only[Try.f7];(have hb:=trivial;with_reducible repeat' (first|simp only[hb,Vc.down,seval,TY7.down,h1,h3,h4,hk,aaT,d1,d2,d3,d4]|refine tQ ?_ ?_<;>intro hb|refine fd ?_|fail)))
 |false=>
 cases d5:decide (sen<0)with
 |true=>
  (refine ce Try.func7 ?_;simp only[Try.f7];(have hb:=trivial;with_reducible repeat' (first|simp only[hb,Vc.down,seval,TY7.down,h1,h3,h4,hk,aaT,d1,d2,d3,d4,d5]|refine tQ ?_ ?_<;>intro hb|refine fd ?_|fail)))
 |false=>
 cases d6:decide ((m.sens.length:Int)≤sen)with
 |true=>
  (refine ce Try.func7 ?_;simp only[Try.f7];(have hb:=trivial;with_reducible repeat' (first|simp only[hb,Vc.down,seval,TY7.down,h1,h3,h4,hk,aaT,d1,d2,d3,d4,d5,d6]|refine tQ ?_ ?_<;>intro hb|refine fd ?_|fail)))
 |false=>
 have e1:=of_decide_eq_false d1
 have e2:=of_decide_eq_false d2
 have e3:=of_decide_eq_false d3
 have e4:=of_decide_eq_false d4
 have e5:=of_decide_eq_false d5
 have e6:=of_decide_eq_false d6
 obtain⟨k,rfl⟩:∃k:Nat,sen=(k:Int):=⟨sen.toNat,by omega⟩
 have hkl:k<m.sens.length:=by omega
 have hr:azC m y.reads=true:=by
  simp only[aO4,aa7]at c3
  exact c3.1
 have hsn:m.sens≠[]:=fun e=>by rw[e]at hkl;simp at hkl
 have hm6:m.sens.length≤6:=by
  simp only[aaP,afQ,aa7,decide_eq_true_eq]at c2
  exact c2.1.1.1.1.1.1.1.1.1.1
 have hslv:Rr 3 true m.nS (m.sens.map sF.cells)=.imm 3 true (m.sens.map sF.cells):=a5H (by simpa using hsn)
 have hap:=fun h=>ba5 (h:=h) (n:=3) (nfl:=true) (rows:=m.sens.map sF.cells) (by simpa using hsn) (by simp;omega)
 have h0k:(0≤(k:Int))=True:=eq_true (by omega)
 have h1k:((k:Int)<(m.sens.length:Int))=True:=eq_true (by omega)
 have h2k:(k<m.sens.length)=True:=eq_true (by omega)
 have hat:m.sens[k]?=some (sAt m k):=by
  have:=aUE (m:=m) (k:=(k:Int)) (by simpa using hkl)
  simpa using this
 have hkk:(k:Int).toNat<m.sens.length:=by simpa using hkl
 have c2':=a1N (k:=(k:Int)) c2 hkk
 obtain⟨S,hS⟩:∃S,S=(acH m (k:Int)).sens.map sF.cells:=⟨_,rfl⟩
 have hSl:S.length=m.sens.length:=by rw[hS];simp[acH]
 have htk:S.take m.sens.length=S:=acF (by omega)
 have hset:(m.sens.map sF.cells).set k [.int .i64 (sAt m (k:Int)).lo,.int .i64 (sAt m (k:Int)).hi,.bool true]=S:=by
  rw[hS]
  simp only[acH,Int.toNat_natCast,List.map_set]
  rfl
 have hle:(m.sens.length≤m.sens.length)=True:=eq_true (Nat.le_refl _)
 by_cases hn:m.votes=[]
 ·have hV:=aRK m (l:=y.reads) (nn:=y.nn) hs c2 hr hl _ _ (fun _=>rfl) (fun h=>(h hn).elim)
  have hV2:=aRK (acH m k) (l:=y.reads) (nn:=y.nn) (aST hs k) c2' (by rw[aT6];exact hr) hl _ _ (fun _=>rfl) (fun h=>(h hn).elim)
  rw[show(acH m (k:Int)).nS=true from rfl,aSK,←hS]at hV2
  have hV3:om'.call (.fn 25) [.agg [.imm 3 true S,Rr 4 false m.nV (m.votes.map aS.cells),Rr 5 false m.nM (m.moves.map Zw.cells),.int .i64 m.states,.int .i64 m.cmds,.int .i64 m.bgn,Rr 1 true m.nO (m.opn.map iv)],Rr 1 true y.nn (y.reads.map iv)] []=some (.ret (.tup [.nils,.int .i64 0]),[]):=hV2
  rw[hslv]at h1 h3 h4 hV ⊢
  have hvl:(m.votes.length:Int)=0:=by rw[hn];rfl
  (refine ce Try.func7 ?_;simp only[Try.f7];(have hb:=trivial;with_reducible repeat' (first|simp only[hb,Vc.down,seval,TY7.down,h1,h3,h4,hV,hV3,hset,hSl,hle,htk,hkn,d1,d2,d3,d4,d5,d6,hap,h0k,h1k,h2k,hat,hvl,sF.cells,aaT]|refine tQ ?_ ?_<;>intro hb|refine fd ?_|refine bfK ?_|fail)))
 ·have hV:=aRK m (l:=y.reads) (nn:=y.nn) hs c2 hr hl _ _ (fun h=>(hn h).elim) (fun _=>rfl)
  have hV2:=aRK (acH m k) (l:=y.reads) (nn:=y.nn) (aST hs k) c2' (by rw[aT6];exact hr) hl _ _ (fun h=>(hn h).elim) (fun _=>rfl)
  rw[show(acH m (k:Int)).nS=true from rfl,aSK,←hS]at hV2
  obtain⟨A,hA⟩:∃A,A=(m.votes.map (adW m y.reads)).map bv:=⟨_,rfl⟩
  obtain⟨B,hB⟩:∃B,B=(m.votes.map (adW (acH m (k:Int)) y.reads)).map bv:=⟨_,rfl⟩
  have hAl:A.length=m.votes.length:=by rw[hA];simp
  have hBl:B.length=m.votes.length:=by rw[hB];simp
  rw[←hA]at hV
  have hV3:om'.call (.fn 25) [.agg [.imm 3 true S,Rr 4 false m.nV (m.votes.map aS.cells),Rr 5 false m.nM (m.moves.map Zw.cells),.int .i64 m.states,.int .i64 m.cmds,.int .i64 m.bgn,Rr 1 true m.nO (m.opn.map iv)],Rr 1 true y.nn (y.reads.map iv)] []=some (.ret (.tup [.slr 1 0 0 m.votes.length,.int .i64 0]),[.live 1 true false B]):=by rw[hB];exact hV2
  clear hV2
  have hst:=a17 m st ag y hs hl
  have hok:okB m st ag y=true:=a3U c2 (by omega) (by omega) (by omega) (by omega) c3
  rw[if_pos hok]at hst
  have hmoF:∀(hml:m.moves.length<20) v0 (hv0:m.votes[0]?=some v0),om'.call (.fn 14) [.agg (ay6 m st (!adW m y.reads v0)).cells,.int .i64 st,.int .i64 ag,.agg [Rr 1 true y.nn (y.reads.map iv),.int .i64 y.cmd]] []=some (.ret (.tup [.int .i64 (aLN m st ag y).1,.int .i64 (aLN m st ag y).2,.int .i64 0]),[]):=fun hml v0 hv0=>by
   have hmo:=a17 (ay6 m st (!adW m y.reads v0)) st ag y (aXG hs hml st _) hl
   have hmm:=a0D (st:=st) (b:= !adW m y.reads v0) c2 hml (by omega) (by omega) hn
   have hokm:okB (ay6 m st (!adW m y.reads v0)) st ag y=true:=a3U hmm (by omega) (show st<m.states by omega) (by omega) (by omega) c3
   rw[if_pos hokm,a0M c2 hv0]at hmo
   exact hmo
  rw[hslv]at h1 h3 h4 hV hst ⊢
  have hmi:=aPF c2
  have hsv:=hs.votes
  (refine ce Try.func7 ?_;simp only[Try.f7];(have hb:=trivial;with_reducible repeat' (first|simp only[hb,Vc.down,seval,TY7.down,h1,h3,h4,hV,hV3,hset,hSl,hle,htk,hkn,d1,d2,d3,d4,d5,d6,hap,h0k,h1k,h2k,hat,aPD,sF.cells,aaT]|refine tQ ?_ ?_<;>intro hb|refine fd ?_|fail)))
  refine acW (lst 195 m.votes (fun i (zz:Unit) t h=>t 1=.int .i64 st∧t 2=.int .i64 ag∧t 5=.ptr 0 0 0∧t 8=.ptr 1 0 0∧t 12=.slr 1 4 0 m.votes.length∧t 14=.slr 1 5 0 m.votes.length∧t 16=.int .i64 i∧(h=[.live 7 false false [[.imm 3 true (m.sens.map sF.cells),Rr 4 false m.nV (m.votes.map aS.cells),Rr 5 false m.nM (m.moves.map Zw.cells),.int .i64 m.states,.int .i64 m.cmds,.int .i64 m.bgn,Rr 1 true m.nO (m.opn.map iv)]],.live 2 false false [[Rr 1 true y.nn (y.reads.map iv),.int .i64 y.cmd]],.live 7 false true [[.slr 3 3 0 m.sens.length,Rr 4 false m.nV (m.votes.map aS.cells),Rr 5 false m.nM (m.moves.map Zw.cells),.int .i64 m.states,.int .i64 m.cmds,.int .i64 m.bgn,Rr 1 true m.nO (m.opn.map iv)]],.live 3 true true S,.live 1 true false A,.live 1 true false B])) (fun rest zz=>()) (fun r e t h=>(e=.exit 0∧t 1=.int .i64 st∧t 2=.int .i64 ag∧t 5=.ptr 0 0 0∧t 8=.ptr 1 0 0∧t 12=.slr 1 4 0 m.votes.length∧h=[.live 7 false false [[.imm 3 true (m.sens.map sF.cells),Rr 4 false m.nV (m.votes.map aS.cells),Rr 5 false m.nM (m.moves.map Zw.cells),.int .i64 m.states,.int .i64 m.cmds,.int .i64 m.bgn,Rr 1 true m.nO (m.opn.map iv)]],.live 2 false false [[Rr 1 true y.nn (y.reads.map iv),.int .i64 y.cmd]],.live 7 false true [[.slr 3 3 0 m.sens.length,Rr 4 false m.nV (m.votes.map aS.cells),Rr 5 false m.nM (m.moves.map Zw.cells),.int .i64 m.states,.int .i64 m.cmds,.int .i64 m.bgn,Rr 1 true m.nO (m.opn.map iv)]],.live 3 true true S,.live 1 true false A,.live 1 true false B])) ?_ ?_ () _ _ ?_) (fun e t h hk=>?_)
  ·rintro _ t h Q' kQ ⟨h1,h2,h5,h8,h12,h14,h16,rfl⟩
   (have hb:=trivial;with_reducible repeat' (first|simp only[hb,Vc.down,seval,TY7.down,h1,h2,h5,h8,h12,h14,h16,Int.lt_irrefl,decide_false,aaT]|refine tQ ?_ ?_<;>intro hb|refine fd ?_|fail))
   exact kQ _ _ _ ⟨rfl,by simp[up,h1],by simp[up,h2],by simp[up,h5],by simp[up,h8],by simp[up,h12],rfl⟩
  ·rintro x rest i _ t h J Q' kJ kQ hx hi ⟨h1,h2,h5,h8,h12,h14,h16,rfl⟩
   have hd:decide ((i:Int)<(m.votes.length:Int))=true:=decide_eq_true (by omega)
   have hw:=sC hi hsv
   have ha:A[i]?=some [.bool (adW m y.reads x)]:=by rw[hA];simp only[abG,hx,abE,bv]
   have hb':B[i]?=some [.bool (adW (acH m (k:Int)) y.reads x)]:=by rw[hB];simp only[abG,hx,abE,bv]
   have hmo:=a4X c2 hkk (abS hx) y.reads
   generalize adW (acH m (k:Int)) y.reads x=q1 at hb' hmo
   generalize adW m y.reads x=q2 at ha hmo
   have hvi:(i<m.votes.length)=True:=eq_true hi
   have hvj:((i:Int)<(m.votes.length:Int))=True:=eq_true (by omega)
   cases q1 with
   |false=>
    (with_reducible repeat' (first|simp only[hb,Vc.down,seval,TY7.down,h1,h2,h5,h8,h12,h14,h16,hd,hw,ha,hb',hAl,hBl,hvi,hvj,aaT]|refine tQ ?_ ?_<;>intro hb|refine fd ?_|fail))
    (refine aaV (kJ _ _ () ⟨?_,?_,?_,?_,?_,?_,?_,rfl⟩ ?_);(simp[up,h1]);(simp[up,h2]);(simp[up,h5]);(simp[up,h8]);(simp[up,h12]);(simp[up,h14]);(simp[up]);exact rfl)
   |true=>
    obtain rfl:=hmo rfl
    (with_reducible repeat' (first|simp only[hb,Vc.down,seval,TY7.down,h1,h2,h5,h8,h12,h14,h16,hd,hw,ha,hb',hAl,hBl,hvi,hvj,aaT]|refine tQ ?_ ?_<;>intro hb|refine fd ?_|fail))
    (refine aaV (kJ _ _ () ⟨?_,?_,?_,?_,?_,?_,?_,rfl⟩ ?_);(simp[up,h1]);(simp[up,h2]);(simp[up,h5]);(simp[up,h8]);(simp[up,h12]);(simp[up,h14]);(simp[up]);exact rfl)
  ·exact⟨by simp[up,ent],by simp[up,ent],by simp[up,ent],by simp[up,ent],by simp[up,ent],by simp[up,ent],by simp[up],rfl⟩
  obtain⟨rfl,h1,h2,h5,h8,h12,rfl⟩:=hk
  obtain⟨v0,vs,hvs⟩:=abZ hn
  have hv0:m.votes[0]?=some v0:=by rw[hvs];rfl
  obtain⟨b0,hb0⟩:∃b,b=adW m y.reads v0:=⟨_,rfl⟩
  have ha0:A[0]?=some [.bool b0]:=by rw[hA,hb0];simp only[abG,hv0,abE,bv]
  have hvp:(0<m.votes.length)=True:=eq_true (by rw[hvs];simp)
  have hvq:((0:Int)<(m.votes.length:Int))=True:=eq_true (by rw[hvs];simp)
  have hvr:((m.votes.length:Int)==0)=false:=by rw[hvs,beq_eq_false_iff_ne];simp only[abB];omega
  cases d7:decide ((20:Int)≤(m.moves.length:Int))with
  |true=>
   (have hb:=trivial;with_reducible repeat' (first|simp only[hb,Vc.down,seval,TY7.down,h1,h2,h5,h8,h12,d7,hkn,aaT]|refine tQ ?_ ?_<;>intro hb|refine fd ?_|fail))
  |false=>
  have e7:=of_decide_eq_false d7
  have hm39:(1+m.moves.length≤549755813888)=True:=eq_true (by omega)
  have hml:m.moves.length<20:=by omega
  have hmo:=hmoF hml v0 hv0
  rw[←hb0]at hmo
  have hiw:=fun h hg=>a2M h (!b0) hg
  have hle2:(1+m.moves.length≤m.moves.length+1)=True:=eq_true (by omega)
  by_cases hmv:m.moves=[]
  ·have hmo':om'.call (.fn 14) [.agg [.imm 3 true (m.sens.map sF.cells),Rr 4 false m.nV (m.votes.map aS.cells),.imm 5 false [[.int .i64 st,.int .i64 (IntKind.i64.wrap (m.states-1)),.imm 2 true [[.int .i64 0,.bool (!b0)]],.int .i64 (-1),.int .i64 0]],.int .i64 m.states,.int .i64 m.cmds,.int .i64 m.bgn,Rr 1 true m.nO (m.opn.map iv)],.int .i64 st,.int .i64 ag,.agg [Rr 1 true y.nn (y.reads.map iv),.int .i64 y.cmd]] []=some (.ret (.tup [.int .i64 (aLN m st ag y).1,.int .i64 (aLN m st ag y).2,.int .i64 0]),[]):=by
    rw[←hslv]
    simp only[jR.cells,ay6,hmv]at hmo
    exact hmo
   cases hnm:m.nM with
   |false=>
    have hsm:Rr 5 false m.nM (m.moves.map Zw.cells)=.nils:=by rw[hnm,hmv];rfl
    rw[hnm]at hsm
    rw[hnm,hsm]at hst
    rw[hsm]
    (have hb:=trivial;with_reducible repeat' (first|simp only[hb,Vc.down,seval,TY7.down,h1,h2,h5,h8,h12,hvr,hvp,hvq,ha0,hAl,hkn,hst,aN3,hiw,hmo',aPD,aaT]|refine tQ ?_ ?_<;>intro hb|refine fd ?_|fail))
   |true=>
    have hsm:Rr 5 false m.nM (m.moves.map Zw.cells)=.imm 5 false []:=by rw[hnm,hmv];rfl
    rw[hnm]at hsm
    rw[hnm,hsm]at hst
    rw[hsm]
    (have hb:=trivial;with_reducible repeat' (first|simp only[hb,Vc.down,seval,TY7.down,h1,h2,h5,h8,h12,hvr,hvp,hvq,ha0,hAl,hkn,hst,aN3,hiw,hmo',aPD,aaT]|refine tQ ?_ ?_<;>intro hb|refine fd ?_|fail))
  ·have hap2:=fun h a b r len=>a96 (h:=h) (a:=a) (b:=b) (r:=r) (len:=len) (n:=5) (nfl:=false) (rows:=m.moves.map Zw.cells) (by simpa using hmv)
   have hsm:Rr 5 false m.nM (m.moves.map Zw.cells)=.imm 5 false (m.moves.map Zw.cells):=a5H (by simpa using hmv)
   rw[hsm]at hst ⊢
   have hmo':om'.call (.fn 14) [.agg [.imm 3 true (m.sens.map sF.cells),Rr 4 false m.nV (m.votes.map aS.cells),.imm 5 false ([.int .i64 st,.int .i64 (IntKind.i64.wrap (m.states-1)),.imm 2 true [[.int .i64 0,.bool (!b0)]],.int .i64 (-1),.int .i64 0]::m.moves.map Zw.cells),.int .i64 m.states,.int .i64 m.cmds,.int .i64 m.bgn,Rr 1 true m.nO (m.opn.map iv)],.int .i64 st,.int .i64 ag,.agg [Rr 1 true y.nn (y.reads.map iv),.int .i64 y.cmd]] []=some (.ret (.tup [.int .i64 (aLN m st ag y).1,.int .i64 (aLN m st ag y).2,.int .i64 0]),[]):=by rw[←hslv];exact hmo
   have htk2:List.take (1+m.moves.length) ([.int .i64 st,.int .i64 (IntKind.i64.wrap (m.states-1)),.slr 2 7 0 1,.int .i64 (-1),.int .i64 0]::m.moves.map Zw.cells)=[.int .i64 st,.int .i64 (IntKind.i64.wrap (m.states-1)),.slr 2 7 0 1,.int .i64 (-1),.int .i64 0]::m.moves.map Zw.cells:=acF (by simp;omega)
   (have hb:=trivial;with_reducible repeat' (first|simp only[hb,Vc.down,seval,TY7.down,h1,h2,h5,h8,h12,d7,hvr,hvp,hvq,ha0,hAl,hap2,hm39,hkn,hst,htk2,hle2,aN3,hiw,hmo',aPD,aaT]|refine tQ ?_ ?_<;>intro hb|refine fd ?_|fail))
theorem aXN(hk:om'.call (.fn 13) [] []=some (.ret (.bool true),[])):∀avs,a01 Try.prog 7 Try.f7.params.toList avs→om'.call (.fn 7) avs []=some (.ret (.bool true),[]):=by
 intro avs h
 rw[show Try.f7.params.toList=[27,3,3,29,3]from rfl]at h
 match avs,h with
 | [a,b,c,d,e],h=>
   obtain⟨h1,h2,h3,h4,h5,_⟩:=h
   obtain⟨s,rfl,hs⟩:=a61 h1
   obtain⟨x,rfl,_⟩:=aXM h2
   obtain⟨y,rfl,_⟩:=aXM h3
   obtain⟨z,rfl,hz⟩:=a7T h4
   obtain⟨w,rfl,_⟩:=aXM h5
   exact aXT hk s x y w z hs hz
 | [],h=>exact h.elim
 | [_],h=>exact h.2.elim
 | [_,_],h=>exact h.2.2.elim
 | [_,_,_],h=>exact h.2.2.2.elim
 | [_,_,_,_],h=>exact h.2.2.2.2.elim
 |_::_::_::_::_::_::_,h=>exact h.2.2.2.2.2.elim
end Go.Proofs.Ytfkokgjfpojeoaa
