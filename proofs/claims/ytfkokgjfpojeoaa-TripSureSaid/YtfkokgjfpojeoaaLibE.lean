/- The evaluator and its soundness. -/
import Derived.Test.YtfkokgjfpojeoaaLibD
open Bool renaming and_eq_true→afR
open And renaming intro→af1
set_option linter.unusedSimpArgs false
set_option linter.unusedVariables false
namespace Go.Ev
noncomputable section
set_option maxRecDepth 100000
section
variable {P:Program} {G:Nat→Option Obj}
end
section
variable {P:Program}
theorem zY{ty:TypeId}{n:Nat}(hs:sH P ty n)(fl nn:Bool){rows:List (List AV)}{i:Nat}(hi:i<rows.length):slx P ty (some (Af n fl nn rows)) (some none) (some (some (.int .i64 i)))=some (.ret (.imm n fl (rows.take i)),[]):=by
 cases rows with
 |nil=>simp at hi
 |cons r rs=>rw[pN];exact yI hs fl _ i (by omega)
end
def lsE(e:AV→AV→Bool):List AV→List AV→Bool
 | [],[]=>true
 |a::l,b::r=>e a b&&lsE e l r
 |_,_=>false
def rsE(e:AV→AV→Bool):List (List AV)→List (List AV)→Bool
 | [],[]=>true
 |a::l,b::r=>lsE e a b&&rsE e l r
 |_,_=>false
def avE:Nat→AV→AV→Bool
 |0,_,_=>false
 |d+1,x,y=>
  match x,y with
  | .bool a,.bool b=>a==b
  | .int k a,.int j b=>k==j&&a==b
  | .str a,.str b=>a==b
  | .nils,.nils=>true
  | .imm n f r,.imm n' f' r'=>n==n'&&f==f'&&rsE (avE d) r r'
  | .agg a,.agg b=>lsE (avE d) a b
  |_,_=>false
theorem bQ{e:AV→AV→Bool}(h:∀a b,e a b=true→a=b):∀{l r:List AV},lsE e l r=true→l=r
 | [],[],_=>rfl
 |a::l,b::r,k=>by
  simp only[lsE,afR]at k
  rw[h a b k.1,bQ h k.2]
 | [],_::_,k=>by cases k
 |_::_,[],k=>by cases k
theorem pE{e:AV→AV→Bool}(h:∀a b,e a b=true→a=b):∀{l r:List (List AV)},rsE e l r=true→l=r
 | [],[],_=>rfl
 |a::l,b::r,k=>by
  simp only[rsE,afR]at k
  rw[bQ h k.1,pE h k.2]
 | [],_::_,k=>by cases k
 |_::_,[],k=>by cases k
theorem fV:∀{d:Nat} {x y:AV},avE d x y=true→x=y
 |0,_,_,h=>by cases h
 |d+1,x,y,h=>by
  unfold avE at h
  split at h
  ·simp at h;rw[h]
  ·simp at h;rw[h.1,h.2]
  ·simp at h;rw[h]
  ·rfl
  ·simp only[afR,beq_iff_eq]at h
   rw[h.1.1,h.1.2,pE (fun a b k=>fV k) h.2]
  ·rw[bQ (fun a b k=>fV k) h]
  ·cases h
structure vU where
 f:Nat
 args:List AV
 res:Du × Aa
def akQ(tab:List vU)(f:Nat)(a:List AV)(h:Aa):Option (Du × Aa):=
 match h with
 | []=>(tab.find? fun e=>e.f==f&&lsE (avE 8) e.args a).map (·.res)
 |_=>none
def Xv(pr:Fa)(tab:List vU):Fa:=⟨fun f=>if tab.any (·.f==f)=true then some (akQ tab f)else pr f,pr.md⟩
theorem Oq{O:Dq}{pr:Fa}{tab:List vU}(h0:∀f p,pr f=some p→∀a h r,p a h=some r→O.call (.fn f) a h=some r)(h1:∀e∈tab,O.call (.fn e.f) e.args []=some e.res):
 ∀f p,Xv pr tab f=some p→∀a h r,p a h=some r→O.call (.fn f) a h=some r:=by
 intro f p hp a h r hr
 simp only[Xv]at hp
 split at hp
 ·cases hp
  unfold akQ at hr
  split at hr
  ·obtain⟨e,he,rfl⟩:=Option.map_eq_some_iff.1 hr
   have h2:=List.find?_some he
   simp only[afR,beq_iff_eq]at h2
   rw[←h2.1,←bQ (fun a b k=>fV k) h2.2]
   exact h1 e (List.mem_of_find?_eq_some he)
  ·cases hr
 ·exact h0 f p hp a h r hr
def EVu:=PLift.up (af1 @pV (af1 @lQ (af1 @mD @sS)))
end
end Go.Ev
