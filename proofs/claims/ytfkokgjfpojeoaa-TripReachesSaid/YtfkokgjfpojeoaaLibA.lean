/- The evaluator and its soundness. -/
import GoSem.Dispatch
import GoSem.Core.Region
import GoSem.Machine.Frame
import Derived.Below
import Derived.CallsIn
import Derived.Orders
import Derived.Laws.Cells
import Derived.Laws.Rows
import Derived.Laws.World
import Derived.Laws.Append
import Derived.Laws.StructEq
import Derived.WideLaws
import Derived.ChangeKeysEq
import Derived.IntWalk
open Option renaming bind_eq_some_iff→acE,map_eq_some_iff→acZ
open Nat renaming add_mul→acG,mul_le_mul_right→aiH,le_refl→aiK,add_assoc→an5,mod_lt→ao3,le_trans→apH,mul_comm→asS,eq_zero_or_pos→asX,div_lt_iff_lt_mul→atB,div_add_mod→atX
open List renaming getElem?_eq_getElem→acK,getElem?_eq_some_iff→adD,getElem?_drop→ahZ,all_eq_true→aiC,range→aiI,getElem?_take→al2,mem_of_getElem?→al4,replicate→al5,mem_cons_self→al6,mem_of_mem_take→al7,mem_append→al9,mem_of_mem_drop→amP,getElem?_eq_none→anF,eq_nil_of_length_eq_zero→aoC,mem_replicate→apC,getElem?_set→apN,mem_cons_of_mem→ap9,getElem?_append→asB,getElem_mem→asI,map_cons→as8,getElem?_range→as9,mem_or_eq_of_mem_set→atA,getElem?_cons_succ→avF,length_cons→awV,flatten_cons→axV
open Array renaming getElem?_eq_some_iff→ah3,getElem?_toList→al3,range→anC,getElem?_setIfInBounds→as6,ext_getElem?→avO,eq_empty_of_size_eq_zero→ayH
open Bool renaming false_eq_true→av2
set_option linter.unusedSimpArgs false
set_option linter.unusedVariables false
namespace Go.Ev
noncomputable section
inductive AV where
 |bool (b:Bool)
 |int (k:IntKind) (n:Int)
 |str (s:List UInt8)
 |nilp
 |ptr (b r o:Nat)
 |iptr (cells:List AV)
 |nils
 |imm (st:Nat) (fl:Bool) (rows:List (List AV))
 |slr (st b r len:Nat)
 |func (fn:Fn) (first captured:List AV)
 |nilf
 |iface (t:Nat) (v:AV)
 |nili
 |agg (cells:List AV)
 |tup (vs:List AV)
 |yl (b:Nat)
 |mapr (b:Nat)
 |itr (b:Nat)
 |nilm
 deriving Inhabited
inductive Uw where
 |ready
 |busy
 |done (c:Code)
 |map
 |itr
 deriving Inhabited
inductive CB where
 |live (st:Nat) (fl w:Bool) (rows:List (List AV))
 |frz (st:Nat) (fl:Bool) (rows:List (List AV))
 |dead
 |lp (ps:List Nat) (asg body:Code) (tmps:List AV) (st:Uw)
 deriving Inhabited
abbrev Ab:=List CB
abbrev HF:=Nat→Option CB
def hf(h:Ab):HF:=fun b=>h[b]?
inductive Ag where
 |new (b:Nat) (c:CB)
 |cells (b r o:Nat) (vs:List AV)
 |put (b:Nat) (c:CB)
inductive Fq where
 |cells (b o n:Nat)
 |blk (b:Nat)
 |all
def Am:AV→List AV
 | .agg cs=>cs
 |v=>[v]
def AV.flat:AV→Bool
 | .bool _| .int _ _| .str _=>true
 |_=>false
def AV.isCell:AV→Bool
 | .agg _=>false
 | .tup _=>false
 |_=>true
def Cb{α β:Type}(f:α→Option β):List α→Option (List β)
 | []=>some []
 |a::l=>(f a).bind fun b=>(Cb f l).map fun bs=>b::bs
def nA:Value→Option AV
 | .bool b=>some (.bool b)
 | .int k n=>some (.int k n)
 | .string s=>some (.str s.data.toList)
 | .pointer none=>some .nilp
 | .slice none 0 0=>some .nils
 | .nilFunc=>some .nilf
 | .nilIface=>some .nili
 | .map none=>some .nilm
 |_=>none
def aeB:Value→Option AV
 | .agg cs=>(Cb nA cs.toList).map .agg
 | .tuple cs=>(Cb nA cs.toList).map .tup
 |v=>nA v
structure St where
 tmps:List AV
 h:Ab
def Ov(l:List AV)(i:Nat):AV:=List.rec (motive:=fun _=>Nat→AV) (fun _=>.tup []) (fun a _ ih n=>Nat.rec (motive:=fun _=>AV) a (fun m _=>ih m) n) l i
theorem qT:∀(l:List AV) (i:Nat),Ov l i=(l[i]?).getD (.tup [])
 | [],_=>rfl
 |_::_,0=>rfl
 |_::l,i+1=>by rw[avF,←qT l i];rfl
def blP(l:List AV)(i:Nat)(v:AV):List AV:=List.rec (motive:=fun _=>Nat→List AV) (fun _=>[]) (fun a r ih n=>Nat.rec (motive:=fun _=>List AV) (v::r) (fun m _=>a::ih m) n) l i
theorem fE:∀(l:List AV) (i:Nat) (v:AV),blP l i v=l.set i v
 | [],_,_=>rfl
 |_::_,0,_=>rfl
 |_::l,i+1,v=>by rw[List.set_cons_succ,←fE l i v];rfl
def Ai(tmps:List AV):Operand→Option AV
 | .tmp t=>some (Ov tmps t)
 | .const v=>aeB v
 | .global _=>none
 | .func f=>some (.func (.func f) [] [])
def Dt(tmps:List AV):List Operand→Option (List AV)
 | []=>some []
 |x::xs=>(Ai tmps x).bind fun v=>(Dt tmps xs).map (v::·)
section types
variable (P:Program)
def xF(t:TypeId):Option Bool:=
 match P.underlying t with
 |some (.struct _)|some (.array _ _)=>some true
 |some _=>some false
 |none=>none
def bG(t:TypeId):Option Nat:=(P.info? t).map (·.size)
def byT(t:TypeId):Option Nat:=(P.info? t).map (·.bytes)
def Le(t:TypeId):Option AV:=((P.info? t).bind (·.zero)).bind aeB
def nJ(t:TypeId):Option TypeId:=
 match P.underlying t with
 |some (.slice e)=>some e
 |_=>none
end types
def oJ(g:HF)(b r:Nat):Option (List AV):=
 match g b with
 |some (.live _ _ _ rows)|some (.frz _ _ rows)=>rows[r]?
 |_=>none
def Jl(g:HF)(b r len:Nat):Option (Nat × Bool × List (List AV)):=
 match g b with
 |some (.live st fl _ rows)|some (.frz st fl rows)=>if r+len≤rows.length then some (st,fl,(rows.drop r).take len)else none
 |_=>none
def Ff(cs:List AV)(o:Nat)(vs:List AV):List AV:=cs.take o++(vs.take (cs.length-o)++cs.drop (o+vs.length))
def Ua(rows:List (List AV))(r o:Nat)(vs:List AV):List (List AV):=
 match rows[r]? with
 |some cs=>rows.set r (Ff cs o vs)
 |none=>rows
def Xf(h:Ab):Ag→Ab
 | .new _ c=>h++[c]
 | .cells b r o vs=>
   match h[b]? with
   |some (.live st fl _ rows)=>h.set b (.live st (fl&&vs.all AV.flat) true (Ua rows r o vs))
   |_=>h
 | .put b c=>h.set b c
def Dm(h:Ab):List Ag→Ab
 | []=>h
 |e::es=>Dm (Xf h e) es
structure Ku where
 v:AV
 es:List Ag:=[]
 fs:List Fq:=[]
def Ze(P:Program)(g:HF)(t:TypeId)(p:AV):Option Ku:=
 (xF P t).bind fun isA=>(bG P t).bind fun n=>
 match isA,p with
 |true,.iptr cs=>if n≤cs.length then some ⟨.agg (cs.take n),[],[]⟩else none
 |true,.ptr b r o=>(oJ g b r).bind fun cs=>if o+n≤cs.length then some ⟨.agg ((cs.drop o).take n),[],[.cells b o n]⟩else none
 |false,.iptr (c::_)=>some ⟨c,[],[]⟩
 |false,.ptr b r o=>(oJ g b r).bind fun cs=>(cs[o]?).map fun v=>⟨v,[],[.cells b o 1]⟩
 |_,_=>none
def bX(P:Program)(g:HF)(t:TypeId)(p v:AV):Option Ku:=
 (bG P t).bind fun n=>
 match p with
 | .ptr b r o=>
   match g b with
   |some (.live _ _ _ rows)=>
    (rows[r]?).bind fun cs=>
      if(Am v).length=n∧o+n≤cs.length∧(Am v).all AV.isCell=true then some ⟨.tup [],[.cells b r o (Am v)],[.cells b o n]⟩else none
   |_=>none
 |_=>none
def uJ(base:Nat)(v:AV):Option Ku:=
 if(Am v).all AV.isCell=true then some ⟨.ptr base 0 0,[.new base (.live (Am v).length ((Am v).all AV.flat) false [Am v])],[]⟩else none
def Vj(Nq:Nat→Option (Nat × Nat))(cells:List AV):List (Nat × AV)→Option (List AV)
 | []=>some cells
 |(i,v)::rest=>
  match Nq i with
  |none=>none
  |some (off,size)=>
   if(Am v).length=size∧off+size≤cells.length then Vj Nq (Ff cells off (Am v)) rest else none
def Wb(P:Program)(fs:List Field):List (Nat × Nat):=fs.map fun f=>(f.offset,P.cellsOf f.type)
def Zr(P:Program)(t:TypeId)(parts:List (Nat × AV)):Option AV:=
 (Le P t).bind fun z=>
 match P.underlying t with
 |some (.struct fs)=>if fs.toList.all (fun f=>(P.info? f.type).isSome)=true then(Vj (fun i=>(Wb P fs.toList)[i]?) (Am z) parts).map .agg else none
 |some (.array _ e)=>(bG P e).bind fun s=>(Vj (fun i=>some (i*s,s)) (Am z) parts).map .agg
 |_=>none
def Ws(n:Nat):List (List AV)→List (Nat × AV)→Option (List (List AV))
 |rows,[]=>some rows
 |rows,(i,v)::rest=>if(Am v).length=n∧i<rows.length then Ws n (rows.set i (Am v)) rest else none
def Du(P:Program)(base:Nat)(t:TypeId)(len:Nat)(parts:List (Nat × AV)):Option Ku:=
 (nJ P t).bind fun e=>(bG P e).bind fun n=>(Le P e).bind fun z=>
   if n=0∨(Am z).length≠n∨2 ^ 24<len*n then none else
   (Ws n (al5 len (Am z)) parts).bind fun rows=>
     if rows.all (·.all AV.isCell)=true then some ⟨.slr n base 0 len,[.new base (.live n ((Am z).all AV.flat&&rows.all (·.all AV.flat)) false rows)],[]⟩else none
def Md(P:Program)(base:Nat)(t:TypeId)(len cap:AV):Option Ku:=
 (nJ P t).bind fun e=>(bG P e).bind fun n=>(byT P e).bind fun by_=>(Le P e).bind fun z=>
 match len,cap with
 | .int .i64 l,.int .i64 c=>
   if 0≤l∧l≤c∧c≤2 ^ 40∧by_≤2 ^ 7∧n≠0∧(Am z).length=n∧(Am z).all AV.isCell=true then
    some ⟨.slr n base 0 l.toNat,[.new base (.live n ((Am z).all AV.flat) false (al5 l.toNat (Am z)))],[]⟩
   else none
 |_,_=>none
def amG(P:Program)(t:TypeId)(x:AV)(f:Nat):Option AV:=
 match P.underlying t,x with
 |some (.struct fs),.agg cs=>
  (fs[f]?).bind fun fd=>(xF P fd.type).bind fun isA=>
    if isA then(bG P fd.type).map fun n=>.agg ((cs.drop fd.offset).take n)else cs[fd.offset]?
 |_,_=>none
def Xu(P:Program)(t:TypeId)(x:AV)(f:Nat):Option AV:=
 match P.underlying t with
 |some (.struct fs)=>
  (fs[f]?).bind fun fd=>(bG P fd.type).bind fun n=>
    if n=0 then none else
    match x with
    | .ptr b r o=>some (.ptr b r (o+fd.offset))
    | .iptr cs=>if fd.offset+n≤cs.length then some (.iptr (cs.drop fd.offset))else none
    |_=>none
 |_=>none
def Ut(P:Program)(t:TypeId)(x i:AV):Option AV:=
 match P.underlying t,x,i with
 |some (.slice e),.slr st b r len,.int _ i=>if bG P e=some st∧0≤i∧i<len then some (.ptr b (r+i.toNat) 0)else none
 |some (.slice e),.imm st _ rows,.int _ i=>if bG P e=some st∧0≤i then(rows[i.toNat]?).map .iptr else none
 |some (.array len e),.ptr b r o,.int _ i=>(bG P e).bind fun n=>if 0≤i∧i<len∧n≠0 then some (.ptr b r (o+i.toNat*n))else none
 |some (.array len e),.iptr cs,.int _ i=>(bG P e).bind fun n=>if 0≤i∧i<len∧n≠0 then some (.iptr (cs.drop (i.toNat*n)))else none
 |_,_,_=>none
def Zm(P:Program)(t:TypeId)(x i:AV):Option AV:=
 match P.underlying t,x,i with
 |some .string,.str s,.int _ i=>if 0≤i then(s[i.toNat]?).map fun b=>.int .u8 b.toNat else none
 |some (.array len e),.agg cs,.int _ i=>
  (xF P e).bind fun isA=>(bG P e).bind fun n=>
    if 0≤i∧i<len then(if isA then some (.agg ((cs.drop (i.toNat*n)).take n))else cs[i.toNat*n]?)else none
 |_,_,_=>none
def agW(P:Program)(t:TypeId)(x:AV):Option AV:=
 match P.underlying t,x with
 |some .string,.str s=>some (.int .i64 s.length)
 |some (.slice _),.nils=>some (.int .i64 0)
 |some (.slice _),.imm _ _ rows=>some (.int .i64 rows.length)
 |some (.slice _),.slr _ _ _ len=>some (.int .i64 len)
 |some (.array n _),_=>some (.int .i64 n)
 |_,_=>none
def Qz(y:Nat):Option AV→Nat→Option Nat
 |none,d=>some d
 |some (.int _ i),_=>if 0≤i∧i≤y then some i.toNat else none
 |_,_=>none
def tA(P:Program)(t:TypeId)(x:AV)(lo hi:Option AV):Option AV:=
 match P.underlying t,x with
 |some .string,.str s=>(Qz s.length hi s.length).bind fun h=>(Qz h lo 0).map fun l=>.str ((s.drop l).take (h-l))
 |some (.slice e),.nils=>(bG P e).bind fun _=>(Qz 0 hi 0).bind fun h=>(Qz h lo 0).map fun _=>.nils
 |some (.slice e),.imm st fl rows=>
  (bG P e).bind fun n=>if n=st then(Qz rows.length hi rows.length).bind fun h=>(Qz h lo 0).map fun l=>.imm st fl ((rows.drop l).take (h-l))else none
 |some (.slice e),.slr st b r len=>(bG P e).bind fun n=>if n=st then(Qz len hi len).bind fun h=>(Qz h lo 0).map fun l=>.slr st b (r+l) (h-l)else none
 |_,_=>none
def Hg(P:Program)(g:HF)(e:TypeId):AV→Option (Bool × List (List AV) × List Fq)
 | .nils=>some (true,[],[])
 | .imm st fl rows=>if bG P e=some st then some (fl,rows,[])else none
 | .slr _ b r len=>(Jl g b r len).bind fun(st,fl,rows)=>if bG P e=some st then some (fl,rows,[.blk b])else none
 | .str s=>match P.underlying e,bG P e with
   |some (.int .u8),some 1=>some (true,s.map fun b=>[.int .u8 b.toNat],[])
   |_,_=>none
 |_=>none
def Lt(P:Program)(g:HF)(base:Nat)(t:TypeId)(s x:AV):Option Ku:=
 (nJ P t).bind fun e=>(bG P e).bind fun n=>(byT P e).bind fun by_=>(Le P e).bind fun z=>
 (Hg P g e x).bind fun(nfl,new,fs)=>
 if n=0∨2 ^ 8<by_∨(Am z).length≠n then none else
 match s,new with
 |s,[]=>match s with
  | .nils| .slr _ _ _ _| .imm _ _ _=>some ⟨s,[],fs⟩
  |_=>none
 | .nils,new=>if new.length≤2 ^ 39 then some ⟨.slr n base 0 new.length,[.new base (.live n nfl false new)],fs⟩else none
 | .slr _ b r len,new=>
   match g b with
   |some (.live st fl _ rows)=>
    if st=n∧r+len≤rows.length∧len+new.length≤2 ^ 39 then
     some ⟨.slr st base 0 (len+new.length),[.put b .dead,.new base (.live st (fl&&nfl) false ((rows.drop r).take len++new))],.blk b::fs⟩
    else none
   |_=>none
 |_,_=>none
end
noncomputable section
def Is:Nat→HF→AV→Option AV
 |0,_,_=>none
 |d+1,g,v=>
  match v with
  | .slr _ b r len=>(Jl g b r len).bind fun(st,fl,rows)=>if fl then some (.imm st true rows)else(Cb (Cb (Is d g)) rows).map (.imm st false)
  | .agg cs=>(Cb (Is d g) cs).map .agg
  | .tup _=>none
  | .iface t x=>(Is d g x).map (.iface t)
  | .ptr _ _ _=>none
  | .func fn [] []=>some (.func fn [] [])
  | .func _ _ _=>none
  | .yl _=>none
  | .mapr _=>none
  | .itr _=>none
  |v=>some v
def Nk:Nat→HF→AV→Option AV
 |0,_,_=>none
 |d+1,g,v=>
  match v with
  | .slr _ _ _ _=>Is (d+1) g v
  | .agg cs=>(Cb (Nk d g) cs).map .agg
  | .iface t x=>(Nk d g x).map (.iface t)
  |v=>some v
def Cf:Nat→HF→AV→List Nat
 |0,_,_=>[]
 |d+1,g,v=>
  match v with
  | .slr _ b r len=>b::match Jl g b r len with
    |some (_,fl,rows)=>if fl then []else rows.flatMap fun cs=>cs.flatMap (Cf d g)
    |none=>[]
  | .agg cs=>cs.flatMap (Cf d g)
  | .iface _ x=>Cf d g x
  |_=>[]
def Nq(m:List Nat)(b:Nat):Nat × List Nat:=
 match m.idxOf? b with
 |some i=>(i,m)
 |none=>(m.length,m++[b])
def Fa:Nat→List Nat→AV→Option (AV × List Nat)
 |0,_,_=>none
 |d+1,m,v=>
  match v with
  | .ptr b r o=>some (.ptr (Nq m b).1 r o,(Nq m b).2)
  | .slr st b r len=>some (.slr st (Nq m b).1 r len,(Nq m b).2)
  | .agg cs=>(refL (Fa d) m cs).map fun(cs,m)=>(.agg cs,m)
  | .tup cs=>(refL (Fa d) m cs).map fun(cs,m)=>(.tup cs,m)
  | .iface t x=>(Fa d m x).map fun(x,m)=>(.iface t x,m)
  | .yl b=>some (.yl (Nq m b).1,(Nq m b).2)
  | .mapr b=>some (.mapr (Nq m b).1,(Nq m b).2)
  | .itr b=>some (.itr (Nq m b).1,(Nq m b).2)
  | .func fn a b=>(refL (Fa d) m a).bind fun(a,m)=>(refL (Fa d) m b).map fun(b,m)=>(.func fn a b,m)
  |v=>some (v,m)
 where
 refL (f:List Nat→AV→Option (AV × List Nat)):List Nat→List AV→Option (List AV × List Nat)
 |m,[]=>some ([],m)
 |m,v::vs=>(f m v).bind fun(v,m)=>(refL f m vs).map fun(vs,m)=>(v::vs,m)
def Ql:List Nat→List (List AV)→Option (List (List AV) × List Nat)
 |m,[]=>some ([],m)
 |m,cs::rs=>(Fa.refL (Fa 8) m cs).bind fun(cs,m)=>(Ql m rs).map fun(rs,m)=>(cs::rs,m)
def oH(m:List Nat):CB→Option (CB × List Nat)
 | .live st true w rows=>some (.live st true w rows,m)
 | .live st false w rows=>(Ql m rows).map fun(rows,m)=>(.live st false w rows,m)
 | .frz st true rows=>some (.frz st true rows,m)
 | .frz st false rows=>(Ql m rows).map fun(rows,m)=>(.frz st false rows,m)
 | .dead=>some (.dead,m)
 | .lp ps asg body tmps st=>(Fa.refL (Fa 8) m tmps).map fun(tmps,m)=>(.lp ps asg body tmps st,m)
def Qx:Nat→HF→Nat→List Nat→Option (List CB × List Nat)
 |0,_,_,_=>none
 |n+1,g,i,m=>
  match m[i]? with
  |none=>some ([],m)
  |some b=>(g b).bind fun c=>(oH m c).bind fun(c,m)=>(Qx n g (i+1) m).map fun(cs,m)=>(c::cs,m)
def Sv(g:HF)(m:List Nat)(vs:List AV):Option (List AV × List CB × List Nat):=
 (Fa.refL (Fa 8) m vs).bind fun(vs,m)=>(Qx 5000 g 0 m).map fun(cs,m)=>(vs,cs,m)
def Es:Nat→(Nat→Nat)→AV→Option AV
 |0,_,_=>none
 |d+1,f,v=>
  match v with
  | .ptr b r o=>some (.ptr (f b) r o)
  | .slr st b r len=>some (.slr st (f b) r len)
  | .agg cs=>(Cb (Es d f) cs).map .agg
  | .tup cs=>(Cb (Es d f) cs).map .tup
  | .iface t x=>(Es d f x).map (.iface t)
  | .func fn a b=>(Cb (Es d f) a).bind fun a=>(Cb (Es d f) b).map fun b=>.func fn a b
  | .yl b=>some (.yl (f b))
  | .mapr b=>some (.mapr (f b))
  | .itr b=>some (.itr (f b))
  |v=>some v
def Mc(f:Nat→Nat):CB→Option CB
 | .live st true w rows=>some (.live st true w rows)
 | .live st false w rows=>(Cb (Cb (Es 8 f)) rows).map (.live st false w)
 | .frz st true rows=>some (.frz st true rows)
 | .frz st false rows=>(Cb (Cb (Es 8 f)) rows).map (.frz st false)
 | .dead=>some .dead
 | .lp ps asg body tmps st=>(Cb (Es 8 f) tmps).map fun tmps=>.lp ps asg body tmps st
def hasImm:Nat→AV→Bool
 |0,_=>true
 |d+1,v=>
  match v with
  | .imm _ _ []=>false
  | .imm _ _ _=>true
  | .iptr _=>true
  | .agg cs=>cs.any (hasImm d)
  | .tup cs=>cs.any (hasImm d)
  | .iface _ x=>hasImm d x
  | .func _ a b=>a.any (hasImm d)||b.any (hasImm d)
  |_=>false
def CB.hasImm:CB→Bool
 | .live _ true _ _| .frz _ true _| .dead=>false
 | .live _ false _ rows| .frz _ false rows=>rows.any fun cs=>cs.any (Ev.hasImm 8)
 | .lp _ _ _ tmps _=>tmps.any (Ev.hasImm 8)
inductive Gp where
 |ret (v:AV)
 |pan (v:AV)
inductive Ex where
 |normal
 |exit (id:Nat)
 |ret
 |pan (v:AV)
inductive cC where
 |fn (f:Nat)
 |round
 |sh (f:Nat)
structure Hv where
 call:cC→List AV→Ab→Option (Gp × Ab)
 loop:Code→St→Option (Ex × St)
 md:Nat→Bool
def Gp.v:Gp→AV
 | .ret v=>v
 | .pan v=>v
def Gp.map(f:AV→AV):Gp→Gp
 | .ret v=>.ret (f v)
 | .pan v=>.pan (f v)
def Gn(g:HF):List Nat→List Ag
 | []=>[]
 |b::bs=>match g b with
  |some (.live st fl _ rows)=>.put b (.frz st fl rows)::Gn g bs
  |_=>Gn g bs
def AV.same:AV→AV→Bool
 | .bool a,.bool b=>a==b
 | .int k a,.int j b=>k==j&&a==b
 | .str a,.str b=>a==b
 |_,_=>false
def AV.sameKey:AV→AV→Bool
 | .agg xs,.agg ys=>xs.length==ys.length&&(xs.zip ys).all fun(x,y)=>x.same y
 |x,y=>x.same y
def AV.sameL:List AV→List AV→Bool
 | [],[]=>true
 |x::xs,y::ys=>x.sameKey y&&AV.sameL xs ys
 |_,_=>false
def CB.clean:CB→CB
 | .live st fl _ rows=>.live st fl false rows
 |c=>c
def CB.same:CB→CB→Bool
 | .live _ _ _ _,.live _ _ w _=> !w
 | .frz _ _ _,.frz _ _ _=>true
 | .dead,.dead=>true
 | .lp _ _ _ _ .ready,.lp _ _ _ _ .ready=>true
 | .lp _ _ _ _ .busy,.lp _ _ _ _ .busy=>true
 | .lp _ _ _ kvs .map,.lp _ _ _ kvs' .map=>AV.sameL kvs kvs'
 |_,_=>false
def CB.unw:CB→Bool
 | .live _ _ w _=> !w
 |_=>false
def CB.isLive:CB→Bool
 | .live _ _ _ _=>true
 | .lp _ _ _ _ _=>true
 |_=>false
def Ln(f:Nat→Nat):List Nat→List CB→List CB→Option (List Ag)
 |b::m,c₀::cs₀,c::cs=>
  bif c₀.same c then Ln f m cs₀ cs else
  bif c.unw|| !c₀.isLive then none else(Mc f c).bind fun c=>(Ln f m cs₀ cs).map (.put b c::·)
 | [],[],[]=>some []
 |_,_,_=>none
def Pe(f:Nat→Nat)(base:Nat):List CB→Option (List Ag)
 | []=>some []
 |c::cs=>(Mc f c).bind fun c=>(Pe f (base+1) cs).map (.new base c::·)
def Ag.hasImm:Ag→Bool
 | .new _ c=>c.hasImm
 | .cells _ _ _ _=>true
 | .put _ c=>c.hasImm
structure Uf where
 out:Gp
 es:List Ag
 fs:List Fq
def Js(m:List Nat)(base:Nat):Nat→Nat:=fun i=>if i<m.length then m.getD i base else base+(i-m.length)
def Uu(g:HF)(base:Nat)(lent m:List Nat)(cs:List CB)(out:Gp)(h':Ab):Option Uf:=
 (Es 8 (Js m base) out.v).bind fun v=>
 (Ln (Js m base) m cs (h'.take m.length)).bind fun ps=>
 (Pe (Js m base) base (h'.drop m.length)).bind fun ns=>
   let fz:=if lent.isEmpty|| !(hasImm 8 v||(ps++ns).any Ag.hasImm)then []else Gn g lent
   some ⟨out.map fun _=>v,fz++ps++ns,(lent++m).map .blk⟩
def hOf(g:HF)(base:Nat):Option Ab:=Cb g (aiI base)
def Uk:Nat→List CB→List Ag
 |_,[]=>[]
 |i,c::cs=>.new i c::Uk (i+1) cs
def CB.mark:CB→CB
 | .live st fl _ rows=>.live st fl true rows
 |c=>c
def CB.quiet:CB→CB→Bool
 | .live _ _ _ _,.live _ _ w _=> !w
 |c₀,c=>c₀.same c
def Io:Nat→Ab→Ab→Option (List Ag)
 |i,[],h'=>some (Uk i h')
 |_,_::_,[]=>none
 |i,c₀::h,c::h'=>bif c₀.quiet c then Io (i+1) h h' else bif c₀.isLive then(Io (i+1) h h').map (.put i c.mark::·)else none
def Sm(O:Hv)(g:HF)(base:Nat)(f:cC)(args:List AV):Option Uf:=
 (hOf g base).bind fun h=>(O.call f args (h.map CB.clean)).bind fun(out,h')=>(Io 0 h h').map fun es=>⟨out,es,[.all]⟩
def eG(f:Nat):List AV→cC
 | .ptr _ _ _::_=>.sh f
 | .yl _::_=>.sh f
 | .slr _ _ _ _::_=>.sh f
 | .int _ _::_=>.sh f
 | .agg _::_=>.sh f
 |_=>.fn f
def Fh(O:Hv)(g:HF)(base:Nat)(f:cC)(args:List AV):Option Uf:=
 (Cb (Nk 12 g) args).bind fun vs=>
 (Sv g [] vs).bind fun(vs,cs,m)=>
 if(args.flatMap (Cf 12 g)).any (m.contains ·)then none else
 (O.call f vs (cs.map CB.clean)).bind fun(out,h')=>Uu g base (args.flatMap (Cf 12 g)) m cs out h'
def eA:List AV→Bool
 | .yl _::_=>true
 |_=>false
def Iq(O:Hv)(g:HF)(base:Nat)(f:cC)(args:List AV):Option Uf:=
 match f with
 | .fn f=>Fh O g base (.fn f) args
 | .round=>Sm O g base .round args
 | .sh f=>bif eA args||O.md f then Sm O g base (.sh f) args else Fh O g base (.fn f) args
def Lq(op:BinOp)(k:IntKind)(x y:Int):Option AV:=
 match op with
 | .add=>some (.int k (k.wrap (x+y)))
 | .sub=>some (.int k (k.wrap (x-y)))
 | .mul=>some (.int k (k.wrap (x*y)))
 | .quo=>if y=0 then none else some (.int k (k.wrap (x.tdiv y)))
 | .rem=>if y=0 then none else some (.int k (x.tmod y))
 | .and=>some (.int k (k.wrap (BitVec.ofInt k.bits x&&&BitVec.ofInt k.bits y).toNat))
 | .or=>some (.int k (k.wrap (BitVec.ofInt k.bits x|||BitVec.ofInt k.bits y).toNat))
 | .xor=>some (.int k (k.wrap (BitVec.ofInt k.bits x^^^BitVec.ofInt k.bits y).toNat))
 | .eql=>some (.bool (x==y))
 | .neq=>some (.bool (x !=y))
 | .lss=>some (.bool (x<y))
 | .leq=>some (.bool (x≤y))
 | .gtr=>some (.bool (x>y))
 | .geq=>some (.bool (x≥y))
 |_=>none
def ahY(op:BinOp)(x y:List UInt8):Option AV:=
 match op with
 | .add=>if x.length+y.length<2 ^ 62 then some (.str (x++y))else none
 | .eql=>some (.bool (x==y))
 | .neq=>some (.bool !(x==y))
 | .lss=>some (.bool (Op.bytesLess x y))
 | .leq=>some (.bool (Op.bytesLess x y||x==y))
 | .gtr=>some (.bool !(Op.bytesLess x y||x==y))
 | .geq=>some (.bool !(Op.bytesLess x y))
 |_=>none
def iT(P:Program):Nat→TypeId→AV→AV→Option Bool
 |0,_,_,_=>none
 |d+1,t,x,y=>
  match P.underlying t,x,y with
  |some .bool,.bool a,.bool b=>some (a==b)
  |some (.int _),.int k a,.int k' b=>if k=k' then some (a==b)else none
  |some .string,.str a,.str b=>some (a==b)
  |some (.struct fs),.agg xs,.agg ys=>if P.stoodInHeld t then none else eqL (iT P d) xs ys fs.toList
  |some (.array n e),.agg xs,.agg ys=>(bG P e).bind fun sz=>eqA (iT P d e) e sz xs ys (aiI n)
  |some (.slice _),.nils,.nils=>some true
  |some (.slice _),.nils,.imm _ _ _|some (.slice _),.nils,.slr _ _ _ _=>some false
  |some (.slice _),.imm _ _ _,.nils|some (.slice _),.slr _ _ _ _,.nils=>some false
  |some (.pointer _),.nilp,.nilp=>some true
  |some (.pointer _),.nilp,.ptr _ _ _|some (.pointer _),.ptr _ _ _,.nilp=>some false
  |some (.func _ _ _),.nilf,.nilf=>some true
  |some (.func _ _ _),.nilf,.func _ _ _|some (.func _ _ _),.func _ _ _,.nilf=>some false
  |_,_,_=>none
 where
 partOf (P:Program) (t:TypeId) (cs:List AV) (off:Nat):Option AV:=
  (xF P t).bind fun isA=>if isA then(bG P t).map fun n=>.agg ((cs.drop off).take n)else cs[off]?
 eqL (eq:TypeId→AV→AV→Option Bool) (xs ys:List AV):List Field→Option Bool
 | []=>some true
 |f::fs=>
  if f.name= "_" then eqL eq xs ys fs else
  (partOf P f.type xs f.offset).bind fun a=>(partOf P f.type ys f.offset).bind fun b=>(eq f.type a b).bind fun r=>
    if r then eqL eq xs ys fs else some false
 eqA (eq:AV→AV→Option Bool) (e:TypeId) (sz:Nat) (xs ys:List AV):List Nat→Option Bool
 | []=>some true
 |i::is=>
  (partOf P e xs (i*sz)).bind fun a=>(partOf P e ys (i*sz)).bind fun b=>(eq a b).bind fun r=>
    if r then eqA eq e sz xs ys is else some false
def Pn(P:Program)(op:BinOp)(t:TypeId)(x y:AV):Option AV:=
 match op,x,y with
 | .shl,.int k a,.int _ b=>if b<0 then none else some (.int k (k.wrap (a*2 ^ (min b.toNat k.bits))))
 | .shr,.int k a,.int _ b=>if b<0 then none else some (.int k (a.fdiv (2 ^ (min b.toNat k.bits))))
 |op,.int k a,.int k' b=>if k=k' then Lq op k a b else none
 |op,.str a,.str b=>ahY op a b
 | .eql,.agg a,.agg b=>if P.eqGuardType P.depth t then none else(iT P 12 t (.agg a) (.agg b)).map .bool
 | .neq,.agg a,.agg b=>if P.eqGuardType P.depth t then none else(iT P 12 t (.agg a) (.agg b)).map fun r=>.bool !r
 | .eql,x,y=>(iT P 12 t x y).map .bool
 | .neq,x,y=>(iT P 12 t x y).map fun r=>.bool !r
 |_,_,_=>none
def aUn(op:UnOp)(x:AV):Option AV:=
 match op,x with
 | .neg,.int k n=>some (.int k (k.wrap (0-n)))
 | .not,.bool b=>some (.bool !b)
 |_,_=>none
def zQ:AV→AV→Option AV
 | .int k x,.int _ y=>some (.int k (if y<x then y else x))
 |_,_=>none
def aiS:AV→AV→Option AV
 | .int k x,.int _ y=>some (.int k (if y>x then y else x))
 |_,_=>none
def auE(P:Program)(src dst:TypeId)(x:AV):Option AV:=
 match P.underlying src,P.underlying dst,x with
 |some (.int _),some (.int k),.int _ n=>some (.int k (k.wrap n))
 |some .string,some .string,.str s=>some (.str s)
 |_,_,_=>none
def bK:List (Nat × Operand)→List AV→List (Nat × AV)
 |(i,_)::ps,v::vs=>(i,v)::bK ps vs
 |_,_=>[]
def tN(tmps:List AV):Option Operand→Option (Option AV)
 |none=>some none
 |some x=>(Ai tmps x).map some
def Lh(x:Option AV):Option Ku:=x.map fun v=>⟨v,[],[]⟩
def kO(P:Program)(kt:TypeId)(k:AV):List AV→Nat→Option (Option (Nat × AV))
 | [],_=>some none
 | [_],_=>none
 |a::v::l,i=>(iT P 12 kt k a).bind fun r=>if r then some (some (i,v))else kO P kt k l (i+1)
def xR(P:Program):Nat→TypeId→AV→Bool
 |0,_,_=>false
 |d+1,t,k=>
  match P.underlying t,k with
  |some .bool,k=>k.flat
  |some (.int _),k=>k.flat
  |some .string,k=>k.flat
  |some (.struct fs),.agg cs=>fs.toList.all fun f=>((iT.partOf P f.type cs f.offset).map (xR P d f.type)).getD false
  |some (.array n e),.agg cs=>((bG P e).map fun sz=>(aiI n).all fun i=>((iT.partOf P e cs (i*sz)).map (xR P d e)).getD false).getD false
  |_,_=>false
def ah0(P:Program)(t:TypeId)(k:AV):Bool:=
 xR P 5 t k&&match k with
  | .agg cs=>cs.all AV.flat
  |_=>true
def jJ(g:HF)(b:Nat):Option (List AV):=
 match g b with
 |some (.lp [] .skip .skip kvs .map)=>some kvs
 |_=>none
def Tj(P:Program)(g:HF)(t:TypeId)(m k:AV)(ok:Bool):Option Ku:=
 match P.underlying t,m with
 |some (.map kt vt),.mapr b=>if ah0 P kt k then(jJ g b).bind fun kvs=>(kO P kt k kvs 0).bind fun r=>(Le P vt).bind fun z=>
   let v:=match r with
    |some (_,v)=>v
    |none=>z
   some ⟨bif ok then .tup [v,.bool r.isSome]else v,[],[.blk b]⟩
  else none
 |_,_=>none
def Tf(P:Program)(g:HF)(t:TypeId)(m k v:AV):Option Ku:=
 match P.underlying t,m with
 |some (.map kt _),.mapr b=>if ah0 P kt k then(jJ g b).bind fun kvs=>(kO P kt k kvs 0).bind fun r=>
   match r with
   |some (i,_)=>if((kvs[2*i]?).map k.sameKey).getD false then some ⟨.tup [],[.put b (.lp [] .skip .skip (kvs.set (2*i+1) v) .map)],[.blk b]⟩else none
   |none=>some ⟨.tup [],[.put b (.lp [] .skip .skip (kvs++[k,v]) .map)],[.blk b]⟩
  else none
 |_,_=>none
def Yn:List (List AV)→Option (List UInt8)
 | []=>some []
 | [.int .u8 n]::l=>(Yn l).map (UInt8.ofNat n.toNat::·)
 |_=>none
def dS(P:Program)(g:HF)(s d:TypeId)(x:AV):Option Ku:=
 match P.underlying s,P.underlying d with
 |some (.slice e),some .string=>match P.underlying e with
  |some (.int .u8)=>match x with
   | .str _=>none
   |x=>(Hg P g e x).bind fun(_,rows,fs)=>(Yn rows).map fun l=>⟨.str l,[],fs⟩
  |_=>none
 |_,_=>purely' (auE P s d x)
 where purely' (x:Option AV):Option Ku:=x.map fun v=>⟨v,[],[]⟩
def zY(s:List UInt8)(p:Nat):Option (Nat × Nat):=(s[p]?).map fun b=>if b.toNat<128 then(b.toNat,1)else Utf8.decode ⟨s.toArray⟩ p
def zR(P:Program)(base:Nat)(t:TypeId)(x:AV):Option Ku:=
 match P.underlying t,x with
 |some .string,.str s=>some ⟨.itr base,[.new base (.lp [] .skip .skip [.str s,.int .i64 0] .itr)],[]⟩
 |_,_=>none
def vD(g:HF)(x:AV):Option Ku:=
 match x with
 | .itr b=>match g b with
   |some (.lp [] .skip .skip [.str s,.int .i64 p] .itr)=>match zY s p.toNat with
    |some (c,n)=>some ⟨.tup [.bool true,.int .i64 p.toNat,.int .i32 c],[.put b (.lp [] .skip .skip [.str s,.int .i64 (p.toNat+n:Nat)] .itr)],[.blk b]⟩
    |none=>some ⟨.tup [.bool false],[],[.blk b]⟩
   |_=>none
 |_=>none
def exec(P:Program)(g:HF)(base:Nat)(tmps:List AV)(o:Op):Option Ku:=
 match o with
 | .move x| .assign x=>Lh (Ai tmps x)
 | .pick c a b=>(Ai tmps c).bind fun c=>(Ai tmps a).bind fun a=>(Ai tmps b).bind fun b=>
    match c with
    | .bool r=>some ⟨bif r then a else b,[],[]⟩
    |_=>none
 | .alloc t=>(Le P t).bind fun z=>uJ base z
 | .box _ x=>(Ai tmps x).bind fun v=>uJ base v
 | .build t ps=>(Dt tmps (ps.toList.map (·.2))).bind fun vs=>Lh (Zr P t (bK ps.toList vs))
 | .buildSlice t len ps=>(Dt tmps (ps.toList.map (·.2))).bind fun vs=>Du P base t len (bK ps.toList vs)
 | .load t a=>(Ai tmps a).bind fun p=>Ze P g t p
 | .store t a x=>(Ai tmps a).bind fun p=>(Ai tmps x).bind fun v=>bX P g t p v
 | .nilCheck x=>(Ai tmps x).bind fun v=>
    match v with
    | .ptr _ _ _| .iptr _| .func (.func _) _ _=>some ⟨v,[],[]⟩
    |_=>none
 | .binOp op t x y _=>(Ai tmps x).bind fun a=>(Ai tmps y).bind fun b=>Lh (Pn P op t a b)
 | .unOp op _ x=>(Ai tmps x).bind fun a=>Lh (aUn op a)
 | .convert s d x=>(Ai tmps x).bind fun a=>dS P g s d a
 | .makeInterface t x=>(Ai tmps x).bind fun a=>match P.underlying t with
    |some (.interface _)=>none
    |some _=>some ⟨.iface t a,[],[]⟩
    |none=>none
 | .makeFunc (.func f) a b=>(Dt tmps a.toList).bind fun a=>(Dt tmps b.toList).bind fun b=>some ⟨.func (.func f) a b,[],[]⟩
 | .range t x=>(Ai tmps x).bind fun x=>zR P base t x
 | .next x true=>(Ai tmps x).bind fun x=>vD g x
 | .makeMap _ none=>some ⟨.mapr base,[.new base (.lp [] .skip .skip [] .map)],[]⟩
 | .lookup t m k ok=>(Ai tmps m).bind fun m=>(Ai tmps k).bind fun k=>Tj P g t m k ok
 | .mapUpdate t m k v=>(Ai tmps m).bind fun m=>(Ai tmps k).bind fun k=>(Ai tmps v).bind fun v=>Tf P g t m k v
 | .insert t m k v=>(Ai tmps m).bind fun m=>(Ai tmps k).bind fun k=>(Ai tmps v).bind fun v=>Tf P g t m k v
 | .makeSlice t l c=>(Ai tmps l).bind fun l=>(Ai tmps c).bind fun c=>Md P base t l c
 | .slice t x lo hi none=>(Ai tmps x).bind fun x=>(tN tmps lo).bind fun lo=>(tN tmps hi).bind fun hi=>Lh (tA P t x lo hi)
 | .fieldAddr t x f=>(Ai tmps x).bind fun x=>Lh (Xu P t x f)
 | .field t x f=>(Ai tmps x).bind fun x=>Lh (amG P t x f)
 | .indexAddr t x i=>(Ai tmps x).bind fun x=>(Ai tmps i).bind fun i=>Lh (Ut P t x i)
 | .index t x i=>(Ai tmps x).bind fun x=>(Ai tmps i).bind fun i=>Lh (Zm P t x i)
 | .extract x i=>(Ai tmps x).bind fun x=>match x with
    | .tup vs=>Lh vs[i]?
    |_=>none
 | .call ⟨.builtin b,args,ts⟩=>(Dt tmps args.toList).bind fun vs=>
    match b,vs with
    | .len,[x]=>(ts[0]?).bind fun t=>Lh (agW P t x)
    | .append,[s,x]=>(ts[0]?).bind fun t=>(ts[1]?).bind fun t1=>match P.underlying t1 with
      |some (.slice _)|some .string=>Lt P g base t s x
      |_=>none
    | .min,[x,y]=>Lh (zQ x y)
    | .min,[x,y,z]=>Lh ((zQ x y).bind fun a=>zQ a z)
    | .max,[x,y]=>Lh (aiS x y)
    | .max,[x,y,z]=>Lh ((aiS x y).bind fun a=>aiS a z)
    |_,_=>none
 |_=>none
def rU(P:Program)(t:TypeId)(name:String):Option FuncId:=
 (P.info? t).bind fun i=>(i.methods.find? (·.name==name)).bind fun m=>match m.path.toList,m.func,P.underlying t with
   | [],some (f,true),some (.pointer _)=>some f
   |_,_,_=>none
def callee(P:Program)(tmps:List AV)(c:Call):Option (cC × List AV):=
 match c.callee with
 | .value f=>(Ai tmps f).bind fun fv=>(Dt tmps c.args.toList).bind fun vs=>
    match fv with
    | .func (.func f) a b=>some (eG f (a++vs++b),a++vs++b)
    | .yl b=>some (.round,vs++[.yl b])
    |_=>none
 | .invoke r name=>(Ai tmps r).bind fun rv=>(Dt tmps c.args.toList).bind fun vs=>
    match rv with
    | .iface t v=>(rU P t name).map fun f=>(eG f (v::vs),v::vs)
    |_=>none
 |_=>none
end
noncomputable section
abbrev R:=Option (Ex × St)
def bbG{α:Type}(b:Bool)(k:Bool→α):α:=
 match b with
 |true=>k true
 |false=>k false
def put(tmps:List AV)(d:Option Nat)(v:AV):List AV:=
 match d with
 |some d=>blP tmps d v
 |none=>tmps
def Iu(ops:List Oper)(tmps:List AV)(o:Oper):Option Bool:=
 match o.guard with
 |none=>some true
 |some (j,want)=>
  match(ops[j]?).bind (·.dst)with
  |none=>none
  |some d=>
   match Ov tmps d with
   | .bool b=>some (b==want)
   | .tup []=>some false
   |_=>none
def dJ(ops:List Oper):List Nat:=ops.filterMap fun o=>o.guard.map (·.1)
def aoW(isG:Bool)(v:AV)(k:AV→R):R:=
 match isG with
 |false=>k v
 |true=>
  match v with
  | .bool b=>bbG b fun b=>k (.bool b)
  |v=>k v
inductive bh5 where
 |call (c:Call)
 |panic (x:Operand)
 |other
def Jy:Op→bh5
 | .call ⟨.builtin _,_,_⟩=>.other
 | .call c=>.call c
 | .panic x=>.panic x
 |_=>.other
abbrev iS:=List (List Ag × List Fq)
def Ja(O:Hv)(P:Program)(ops:List Oper)(gs:List Nat):List Oper→Nat→St→iS→(St→iS→R)→(AV→St→R)→R
 | [],_,s,log,k,_=>k s log
 |o::rest,i,s,log,k,kp=>
  match Iu ops s.tmps o with
  |none=>none
  |some false=>Ja O P ops gs rest (i+1) ⟨put s.tmps o.dst (.tup []),s.h⟩ (log++[([],[])]) k kp
  |some true=>
   match Jy o.op with
   | .call c=>
     (callee P s.tmps c).bind fun(f,args)=>(Iq O (hf s.h) s.h.length f args).bind fun d=>
       match d.out with
       | .ret v=>aoW (gs.contains i) v fun v=>Ja O P ops gs rest (i+1) ⟨put s.tmps o.dst v,Dm s.h d.es⟩ (log++[(d.es,d.fs)]) k kp
       | .pan v=>kp v ⟨s.tmps,Dm s.h d.es⟩
   | .panic x=>(Ai s.tmps x).bind fun v=>match v with
     | .iface _ _=>kp v s
     |_=>none
   | .other=>
     (exec P (hf s.h) s.h.length s.tmps o.op).bind fun d=>
       aoW (gs.contains i) d.v fun v=>Ja O P ops gs rest (i+1) ⟨put s.tmps o.dst v,Dm s.h d.es⟩ (log++[(d.es,d.fs)]) k kp
def Fq.meets:Fq→Fq→Bool
 | .cells b o n,.cells b' o' n'=>b==b'&&decide (o<o'+n')&&decide (o'<o+n)
 | .all,_=>true
 |_,.all=>true
 | .cells b _ _,.blk b'=>b==b'
 | .blk b,.cells b' _ _=>b==b'
 | .blk b,.blk b'=>b==b'
def Ag.foot:Ag→Fq
 | .new b _=>.blk b
 | .cells b _ o vs=>.cells b o vs.length
 | .put b _=>.blk b
def Zw(x y:List Ag × List Fq):Bool:=
 let wx:=x.1.map Ag.foot
 let wy:=y.1.map Ag.foot
 wx.any (fun f=>(wy++y.2).any f.meets)||wy.any (fun f=>x.2.any f.meets)
def vF(ops:List Oper):List (Nat × Nat):=
 let b:=Region.before ops.toArray
 (aiI ops.length).flatMap fun j=>(aiI j).filterMap fun i=>if(b.getD j 0).testBit i then none else some (i,j)
def qB(ops:List Oper)(o:Oper):List Nat:=
 (o.op.operands.toList.filterMap fun| .tmp t=>some t|_=>none)++
 (match o.guard with
  |some (g,_)=>((ops[g]?).bind (·.dst)).toList
  |none=>[])
def tO(ops:List Oper)(x y:Oper):Bool:=
 (match x.dst with
  |some d=> !(qB ops y).contains d&& !(y.dst==some d)
  |none=>true)&&
 (match y.dst with
  |some d=> !(qB ops x).contains d
  |none=>true)
def ar0(ops:List Oper):Bool:=
 (aiI ops.length).all fun i=>match ops[i]? with
   |some o=>o.after.all fun e=> !Region.binds .any e||decide (e.on<i)
   |none=>false
def Yc(ops:List Oper):Bool:=
 ar0 ops&&(vF ops).all fun(i,j)=>match ops[i]?,ops[j]? with
  |some x,some y=>tO ops x y
  |_,_=>false
def Iy(ops:List Oper)(log:iS):Bool:=
 (vF ops).all fun(i,j)=>match log[i]?,log[j]? with
   |some x,some y=> !Zw x y
   |_,_=>false
def Np(b:Bool)(k:R):R:=
 match b with
 |true=>k
 |false=>none
inductive Be where
 |code (c:Code)
 |blk (id:Nat)
def Ei(ev:Code→List Be→St→R):List Be→Ex→St→R
 | [],e,s=>some (e,s)
 | .code c::k,.normal,s=>ev c k s
 | .code _::k,e,s=>Ei ev k e s
 | .blk id::k,.exit i,s=>bif i==id then Ei ev k .normal s else Ei ev k (.exit i) s
 | .blk _::k,e,s=>Ei ev k e s
def aoF(v:Option AV)(k:Bool→R):R:=
 match v with
 |some (.bool b)=>bbG b k
 |_=>none
def kC(x:R)(k:Ex→St→R):R:=
 match x with
 |some (e,s)=>k e s
 |none=>none
def Ej(O:Hv)(P:Program):Nat→Code→List Be→St→R
 |0,_,_,_=>none
 |n+1,c,k,s=>
  match c with
  | .skip=>Ei (Ej O P n) k .normal s
  | .label _=>Ei (Ej O P n) k .normal s
  | .region _ ops draw=>
    match draw with
    |false=>Ja O P ops.toList (dJ ops.toList) ops.toList 0 s [] (fun s _=>Ei (Ej O P n) k .normal s) (fun v s=>Ei (Ej O P n) k (.pan v) s)
    |true=>Np (Yc ops.toList) (Ja O P ops.toList (dJ ops.toList) ops.toList 0 s [] (fun s log=>Np (Iy ops.toList log) (Ei (Ej O P n) k .normal s)) (fun _ _=>none))
  | .seq a b=>Ej O P n a (.code b::k) s
  | .cond c a b=>aoF (Ai s.tmps c) fun t=>match t with
    |true=>Ej O P n a k s
    |false=>Ej O P n b k s
  | .block id c=>Ej O P n c (.blk id::k) s
  | .scope c=>Ej O P n c k s
  | .loop c=>kC (O.loop c s) fun e s=>Ei (Ej O P n) k e s
  | .exit id=>Ei (Ej O P n) k (.exit id) s
  | .ret=>Ei (Ej O P n) k .ret s
  | .rangeFunc f ps asg body=>(Ai s.tmps f).bind fun fv=>match fv with
    | .func (.func g) a b=>
      let h1:=s.h++[.lp ps.toList asg body s.tmps .ready]
      (Iq O (hf h1) h1.length (eG g (a++[.yl s.h.length]++b)) (a++[.yl s.h.length]++b)).bind fun d=>match d.out with
      | .ret _=>
        let h2:=Dm h1 d.es
        match h2[s.h.length]? with
        |some (.lp _ _ _ _ .ready)=>Ei (Ej O P n) k .normal ⟨s.tmps,h2.set s.h.length .dead⟩
        |some (.lp _ _ _ _ (.done .ret))=>Ei (Ej O P n) k .ret ⟨s.tmps,h2.set s.h.length .dead⟩
        |some (.lp _ _ _ _ (.done (.exit i)))=>Ei (Ej O P n) k (.exit i) ⟨s.tmps,h2.set s.h.length .dead⟩
        |_=>none
      | .pan _=>none
    |_=>none
  |_=>none
def bI(P:Program)(s:St):List ResultVar→Option (List AV)
 | []=>some []
 | .tmp t::rs=>(bI P s rs).map fun vs=>Ov s.tmps t::vs
 | .cell a t::rs=>(Ze P (hf s.h) t (Ov s.tmps a)).bind fun d=>(bI P s rs).map fun vs=>d.v::vs
def aJ:List AV→AV
 | [v]=>v
 |vs=>.tup vs
def Zn(k:Nat)(v:AV)(h:Ab):Option (AV × Ab):=
 (Sv (hf h) (aiI k) [v]).bind fun(vs,cs,_)=>match vs with
   | [v]=>some (v,cs)
   |_=>none
def Tt:Nat:=5000
def evF(O:Hv)(P:Program)(f:Nat)(args:List AV)(h:Ab):Option (Gp × Ab):=
 match P.funcs[f]? with
 |none=>none
 |some fn=>
  match fn.body with
  |none=>none
  |some c=>
   (Ej O P Tt c [] ⟨args++al5 (fn.ntmps-args.length) (.tup []),h⟩).bind fun(e,s)=>
     match e with
     | .normal| .ret=>(bI P s fn.results.toList).bind fun vs=>(Zn h.length (aJ vs) s.h).map fun(v,h)=>(.ret v,h)
     | .pan v=>(Zn h.length v s.h).map fun(v,h)=>(.pan v,h)
     | .exit _=>none
def evS(O:Hv)(P:Program)(f:Nat)(args:List AV)(h:Ab):Option (Gp × Ab):=
 match P.funcs[f]? with
 |none=>none
 |some fn=>
  match fn.body with
  |none=>none
  |some c=>
   (Ej O P Tt c [] ⟨args++al5 (fn.ntmps-args.length) (.tup []),h⟩).bind fun(e,s)=>
     match e with
     | .normal| .ret=>(bI P s fn.results.toList).map fun vs=>(.ret (aJ vs),s.h)
     | .pan v=>some (.pan v,s.h)
     | .exit _=>none
def Zu:List AV→List Nat→List AV→List AV
 |tmps,p::ps,v::vs=>Zu (tmps.set p v) ps vs
 |tmps,_,_=>tmps
def Yt:Ex→Option (Bool × Uw)
 | .normal=>some (true,.ready)
 | .ret=>some (false,.done .ret)
 | .exit i=>some (false,.done (.exit i))
 | .pan _=>none
def Za(h:Ab)(b:Nat)(ok:Uw→Bool)(st:Uw):Option Ab:=
 match h[b]? with
 |some (.lp ps asg body tmps st')=>if ok st' then some (h.set b (.lp ps asg body tmps st))else none
 |_=>none
def Uw.isReady:Uw→Bool
 | .ready=>true
 |_=>false
def Uw.isBusy:Uw→Bool
 | .busy=>true
 |_=>false
def Wn(O:Hv)(P:Program)(args:List AV)(h:Ab):Option (Gp × Ab):=
 match args.reverse with
 | .yl b::vs=>
   match h[b]? with
   |some (.lp ps asg body tmps _)=>
    if ps.length=vs.length then
     (Ej O P Tt asg [] ⟨Zu tmps ps vs.reverse,h⟩).bind fun(e,s)=>match e with
       | .normal=>(Za s.h b Uw.isReady .busy).bind fun h1=>
         (Ej O P Tt body [] ⟨s.tmps,h1⟩).bind fun(e,s)=>(Yt e).bind fun(r,st)=>(Za s.h b Uw.isBusy st).bind fun h2=>
           some (.ret (.bool r),h2)
       |_=>none
    else none
   |_=>none
 |_=>none
structure Oz where
 at_:Nat→Option (List AV→Ab→Option (Gp × Ab))
 md:Nat→Bool
 sh:Nat→Option (List AV→Ab→Option (Gp × Ab)):=fun _=>none
instance:CoeFun Oz (fun _=>Nat→Option (List AV→Ab→Option (Gp × Ab))):=⟨Oz.at_⟩
def aU(P:Program)(pr:Oz):Nat→Hv
 |0=>{ call:=fun _ _ _=>none,loop:=fun _ _=>none,md:=pr.md }
 |n+1=>
  { call:=fun f args h=>match f with
     | .round=>Wn (aU P pr n) P args h
     | .sh f=>match pr.sh f with
       |some p=>p args h
       |none=>match pr f with
        |some _=>none
        |none=>evS (aU P pr n) P f args h
     | .fn f=>match pr f with
       |some p=>p args h
       |none=>evF (aU P pr n) P f args h
    loop:=fun c s=>kC (Ej (aU P pr n) P Tt c [] s) fun e s=>match e with
     | .normal=>(aU P pr n).loop c s
     |e=>some (e,s)
    md:=pr.md }
end
end Go.Ev
namespace Go.Ev
open Go.RowKit
inductive RS where
 |fresh
 |dead
 |pl (cb co st sz:Nat)
 |lp (l:Nat)
abbrev Ba:=Nat→RS
inductive VR(w:World)(S:Nat→Prop):Ba→AV→Value→Prop
 |bool {ρ:Ba} (b:Bool):VR w S ρ (.bool b) (.bool b)
 |int {ρ:Ba} (k:IntKind) (n:Int):VR w S ρ (.int k n) (.int k n)
 |str {ρ:Ba} (s:ByteArray):VR w S ρ (.str s.data.toList) (.string s)
 |nilp {ρ:Ba}:VR w S ρ .nilp (.pointer none)
 |ptr {ρ:Ba} {b r o cb co st sz:Nat}:ρ b=.pl cb co st sz→VR w S ρ (.ptr b r o) (.pointer (some ⟨cb,co+r*st+o,none⟩))
 |ptrD {ρ:Ba} {b r o:Nat} {a:Addr}:ρ b=.dead→VR w S ρ (.ptr b r o) (.pointer (some a))
 |iptr {ρ:Ba} {cs:List AV} {blk off:Nat} (f:Nat→Value):S blk→(∀(i:Nat) (x:AV),cs[i]?=some x→w.cell? ⟨blk,off+i,none⟩=some (f i))→
   (∀(ρ':Ba) (i:Nat) (x:AV),cs[i]?=some x→VR w S ρ' x (f i))→VR w S ρ (.iptr cs) (.pointer (some ⟨blk,off,none⟩))
 |nils {ρ:Ba}:VR w S ρ .nils (.slice none 0 0)
 |imm {ρ:Ba} {st:Nat} {fl:Bool} {rows:List (List AV)} {a:Addr} {cap:Nat} (f:Nat→Nat→Value):(rows=[]∨(S a.block∧a.spot=none))→rows.length≤cap→
   (∀r∈rows,r.length=st)→(fl=true→∀r∈rows,∀x∈r,x.flat=true)→(∀r∈rows,∀x∈r,x.isCell=true)→
   (∀(i:Nat) (r:List AV) (j:Nat) (x:AV),rows[i]?=some r→r[j]?=some x→w.cell? ⟨a.block,a.off+i*st+j,none⟩=some (f i j))→
   (∀(ρ':Ba) (i:Nat) (r:List AV) (j:Nat) (x:AV),rows[i]?=some r→r[j]?=some x→VR w S ρ' x (f i j))→VR w S ρ (.imm st fl rows) (.slice (some a) rows.length cap)
 |slr {ρ:Ba} {b r len cb co st sz cap:Nat} {a:Addr}:ρ b=.pl cb co st sz→len≤cap→(cap=0∨(a=⟨cb,co+r*st,none⟩∧co+(r+cap)*st≤sz))→
   VR w S ρ (.slr st b r len) (.slice (some a) len cap)
 |slrD {ρ:Ba} {st b r len c:Nat} {a:Addr}:ρ b=.dead→len≤c→VR w S ρ (.slr st b r len) (.slice (some a) len c)
 |func {ρ:Ba} {fn:Fn} {a c:List AV} {va vc:Array Value}:a.length=va.size→c.length=vc.size→(∀(i:Nat) (x:AV) (v:Value),a[i]?=some x→va[i]?=some v→VR w S ρ x v)→
   (∀(i:Nat) (x:AV) (v:Value),c[i]?=some x→vc[i]?=some v→VR w S ρ x v)→VR w S ρ (.func fn a c) (.func fn va vc)
 |yl {ρ:Ba} {b l:Nat}:ρ b=.lp l→VR w S ρ (.yl b) (.func (.yield l) #[] #[])
 |ylD {ρ:Ba} {b l:Nat}:ρ b=.dead→VR w S ρ (.yl b) (.func (.yield l) #[] #[])
 |mapr {ρ:Ba} {b l:Nat}:ρ b=.lp l→VR w S ρ (.mapr b) (.map (some l))
 |maprD {ρ:Ba} {b l:Nat}:ρ b=.dead→VR w S ρ (.mapr b) (.map (some l))
 |itr {ρ:Ba} {b l:Nat}:ρ b=.lp l→VR w S ρ (.itr b) (.pointer (some ⟨l,0,none⟩))
 |itrD {ρ:Ba} {b l:Nat}:ρ b=.dead→VR w S ρ (.itr b) (.pointer (some ⟨l,0,none⟩))
 |nilm {ρ:Ba}:VR w S ρ .nilm (.map none)
 |nilf {ρ:Ba}:VR w S ρ .nilf .nilFunc
 |iface {ρ:Ba} {t:Nat} {x:AV} {v:Value}:VR w S ρ x v→VR w S ρ (.iface t x) (.iface t v)
 |nili {ρ:Ba}:VR w S ρ .nili .nilIface
 |agg {ρ:Ba} {cs:List AV} {vs:Array Value}:cs.length=vs.size→(∀(i:Nat) (x:AV) (v:Value),cs[i]?=some x→vs[i]?=some v→VR w S ρ x v)→VR w S ρ (.agg cs) (.agg vs)
 |tup {ρ:Ba} {cs:List AV} {vs:Array Value}:cs.length=vs.size→(∀(i:Nat) (x:AV) (v:Value),cs[i]?=some x→vs[i]?=some v→VR w S ρ x v)→VR w S ρ (.tup cs) (.tuple vs)
def Ba.le(ρ ρ':Ba):Prop:=∀b,ρ b=.fresh∨ρ' b=ρ b∨ρ' b=.dead
theorem Ba.le_refl(ρ:Ba):ρ.le ρ:=fun _=>.inr (.inl rfl)
theorem Ba.le_trans{a b c:Ba}(h:a.le b)(k:b.le c):a.le c:=by
 intro x
 rcases h x with h|h|h
 ·exact .inl h
 ·rcases k x with k|k|k
  ·exact .inl (h▸k)
  ·exact .inr (.inl (k.trans h))
  ·exact .inr (.inr k)
 ·rcases k x with k|k|k
  ·rw[h]at k;cases k
  ·exact .inr (.inr (k.trans h))
  ·exact .inr (.inr k)
def apW(S:Nat→Prop)(w w':World):Prop:=∀b,S b→w'.heap[b]?=w.heap[b]?
theorem zX{S:Nat→Prop}{w w':World}(h:apW S w w'){a:Addr}(ha:S a.block):w'.cell? a=w.cell? a:=by
 simp only[World.cell?,h a.block ha]
theorem VR.mono'{w w':World}{S S':Nat→Prop}(hk:apW S w w')(hS:∀b,S b→S' b){ρ:Ba}{x:AV}{v:Value}
 (h:VR w S ρ x v):∀{ρ':Ba},ρ.le ρ'→VR w' S' ρ' x v:=by
 induction h with
 |bool b=>exact fun _=>.bool b
 |int k n=>exact fun _=>.int k n
 |str s=>exact fun _=>.str s
 |nilp=>exact fun _=>.nilp
 | @ptr ρ b r o cb co st sz h=>
   intro ρ' hρ
   rcases hρ b with k|k|k
   ·rw[h]at k;cases k
   ·exact .ptr (k.trans h)
   ·exact .ptrD k
 | @ptrD ρ b r o a h=>
   intro ρ' hρ
   rcases hρ b with k|k|k
   ·rw[h]at k;cases k
   ·exact .ptrD (k.trans h)
   ·exact .ptrD k
 |iptr f hs hc _ ih=>exact fun _=>.iptr f (hS _ hs) (fun i x hx=>by rw[zX hk (a:=⟨_,_,none⟩) hs];exact hc i x hx) (fun ρ' i x hx=>ih ρ' i x hx ρ'.le_refl)
 |nils=>exact fun _=>.nils
 | @imm ρ st fl rows a cap f hs hl hst hfl hcl hc _ ih=>
   refine fun _=>.imm f (hs.imp id fun h=>⟨hS _ h.1,h.2⟩) hl hst hfl hcl (fun i r j x hr hx=>?_) (fun ρ' i r j x hr hx=>ih ρ' i r j x hr hx ρ'.le_refl)
   rcases hs with rfl|hs
   ·simp at hr
   ·rw[zX hk (a:=⟨_,_,none⟩) hs.1];exact hc i r j x hr hx
 | @slr ρ b r len cb co st sz cap a h hl ha=>
   intro ρ' hρ
   rcases hρ b with k|k|k
   ·rw[h]at k;cases k
   ·exact .slr (k.trans h) hl ha
   ·exact .slrD k hl
 | @slrD ρ st b r len c a h hl=>
   intro ρ' hρ
   rcases hρ b with k|k|k
   ·rw[h]at k;cases k
   ·exact .slrD (k.trans h) hl
   ·exact .slrD k hl
 |func h1 h2 _ _ ih1 ih2=>exact fun hρ=>.func h1 h2 (fun i x v hx hv=>ih1 i x v hx hv hρ) (fun i x v hx hv=>ih2 i x v hx hv hρ)
 | @yl ρ b l h=>
   intro ρ' hρ
   rcases hρ b with k|k|k
   ·rw[h]at k;cases k
   ·exact .yl (k.trans h)
   ·exact .ylD k
 | @ylD ρ b l h=>
   intro ρ' hρ
   rcases hρ b with k|k|k
   ·rw[h]at k;cases k
   ·exact .ylD (k.trans h)
   ·exact .ylD k
 | @mapr ρ b l h=>
   intro ρ' hρ
   rcases hρ b with k|k|k
   ·rw[h]at k;cases k
   ·exact .mapr (k.trans h)
   ·exact .maprD k
 | @maprD ρ b l h=>
   intro ρ' hρ
   rcases hρ b with k|k|k
   ·rw[h]at k;cases k
   ·exact .maprD (k.trans h)
   ·exact .maprD k
 | @itr ρ b l h=>
   intro ρ' hρ
   rcases hρ b with k|k|k
   ·rw[h]at k;cases k
   ·exact .itr (k.trans h)
   ·exact .itrD k
 | @itrD ρ b l h=>
   intro ρ' hρ
   rcases hρ b with k|k|k
   ·rw[h]at k;cases k
   ·exact .itrD (k.trans h)
   ·exact .itrD k
 |nilm=>exact fun _=>.nilm
 |nilf=>exact fun _=>.nilf
 |iface _ ih=>exact fun hρ=>.iface (ih hρ)
 |nili=>exact fun _=>.nili
 |agg h _ ih=>exact fun hρ=>.agg h (fun i x v hx hv=>ih i x v hx hv hρ)
 |tup h _ ih=>exact fun hρ=>.tup h (fun i x v hx hv=>ih i x v hx hv hρ)
theorem VR.mono{w w':World}{S S':Nat→Prop}{ρ ρ':Ba}(hk:apW S w w')(hS:∀b,S b→S' b)(hρ:ρ.le ρ'){x:AV}{v:Value}
 (h:VR w S ρ x v):VR w' S' ρ' x v:=h.mono' hk hS hρ
theorem VR.flat{w w':World}{S S':Nat→Prop}{ρ ρ':Ba}{x:AV}{v:Value}(hf:x.flat=true)(h:VR w S ρ x v):VR w' S' ρ' x v:=by
 cases h<;>first|exact .bool _|exact .int _ _|exact .str _|(simp[AV.flat]at hf)
def Value.isCell:Value→Bool
 | .agg _=>false
 | .tuple _=>false
 |_=>true
theorem VR.cell{w:World}{S:Nat→Prop}{ρ:Ba}{x:AV}{v:Value}(hx:x.isCell=true)(h:VR w S ρ x v):Value.isCell v=true:=by
 cases h<;>first|rfl|(simp[AV.isCell]at hx)
def LR(w:World)(S:Nat→Prop)(ρ:Ba)(cs:List AV)(vs:List Value):Prop:=
 cs.length=vs.length∧∀(i:Nat) (x:AV) (v:Value),cs[i]?=some x→vs[i]?=some v→VR w S ρ x v
theorem VR.cells{w:World}{S:Nat→Prop}{ρ:Ba}{x:AV}{v:Value}(h:VR w S ρ x v):LR w S ρ (Am x) v.cells.toList:=by
 have one:∀{x:AV} {v:Value},VR w S ρ x v→LR w S ρ [x] [v]:=fun h=>⟨rfl,fun i x' v' hx hv=>by
  cases i with
  |zero=>simp at hx hv;subst hx hv;exact h
  |succ i=>simp at hx⟩
 cases h with
 |agg hl hc=>exact⟨by simp[Am,Value.cells,hl],fun i x v hx hv=>hc i x v hx (by simpa [Value.cells]using hv)⟩
 |bool b=>exact one (.bool b)
 |int k n=>exact one (.int k n)
 |str s=>exact one (.str s)
 |nilp=>exact one .nilp
 |ptr h=>exact one (.ptr h)
 |ptrD h=>exact one (.ptrD h)
 |iptr f a b c=>exact one (.iptr f a b c)
 |nils=>exact one .nils
 |imm f a b c d e g k=>exact one (.imm f a b c d e g k)
 |slr a b c=>exact one (.slr a b c)
 |slrD a b=>exact one (.slrD a b)
 |func a b c d=>exact one (.func a b c d)
 |yl a=>exact one (.yl a)
 |ylD a=>exact one (.ylD a)
 |mapr a=>exact one (.mapr a)
 |maprD a=>exact one (.maprD a)
 |itr a=>exact one (.itr a)
 |itrD a=>exact one (.itrD a)
 |nilm=>exact one .nilm
 |nilf=>exact one .nilf
 |iface a=>exact one (.iface a)
 |nili=>exact one .nili
 |tup a b=>exact one (.tup a b)
structure Ih(w:World)(S:Nat→Prop)(ρ:Ba)(c:Array Value)(co st:Nat)(fl:Bool)(rows:List (List AV)):Prop where
 len:co+rows.length*st≤c.size
 wide:∀r∈rows,r.length=st
 flat:fl=true→∀r∈rows,∀x∈r,x.flat=true
 cell:∀(i:Nat) (r:List AV) (j:Nat) (x:AV),rows[i]?=some r→r[j]?=some x→∃v,c[co+i*st+j]?=some v∧VR w S ρ x v
 isCell:∀r∈rows,∀x∈r,x.isCell=true
def Uw.holds:Uw→LoopState→Option Code→Prop
 | .ready,s,p=>s=.ready∧p=none
 | .busy,s,p=>s=.busy∧p=none
 | .done c,s,p=>s=.done∧p=some c
 | .map,_,_=>False
 | .itr,_,_=>False
structure ag7(w:World)(S:Nat→Prop)(ρ:Ba)(r:Loop)(ps:List Nat)(asg body:Code)(tmps:List AV)(st:Uw):Prop where
 params:r.params.toList=ps
 assign:r.assign=asg
 body:r.body=body
 tmps:LR w S ρ tmps r.tmps.toList
 state:st.holds r.state r.pending
def kvL:List MapEntry→List Value
 | []=>[]
 |e::es=>e.key::e.val::kvL es
inductive iM(w:World)(S:Nat→Prop)(ρ:Ba):Obj→List Nat→Code→Code→List AV→Uw→Prop
 |loop {r:Loop} {ps:List Nat} {asg body:Code} {tmps:List AV} {st:Uw}:ag7 w S ρ r ps asg body tmps st→iM w S ρ (.loop r) ps asg body tmps st
 |map {es:Array MapEntry} {ck:Nat} {kvs:List AV}:LR w S ρ kvs (kvL es.toList)→iM w S ρ (.map es ck) [] .skip .skip kvs .map
 |itr {s:ByteArray} {pos:Nat} {kvs:List AV}:LR w S ρ kvs [.string s,.int .i64 (pos:Nat)]→iM w S ρ (.stringIter s pos) [] .skip .skip kvs .itr
theorem iM.cells{w:World}{S:Nat→Prop}{ρ:Ba}{c:Array Value}{e:TypeId}{f:Nat × Nat}{ps:List Nat}{asg body:Code}{tmps:List AV}{st:Uw}(h:iM w S ρ (.cells c e f) ps asg body tmps st):False:=by cases h
structure HR(w:World)(S:Nat→Prop)(ρ:Ba)(g:HF):Prop where
 at_:∀b cb co st sz,ρ b=.pl cb co st sz→∃(c:Array Value) (e:TypeId) (fz:Nat × Nat) (fl:Bool) (rows:List (List AV)),
  w.heap[cb]?=some (.cells c e fz)∧c.size=sz∧Ih w S ρ c co st fl rows∧
  (((∃wr,g b=some (.live st fl wr rows))∧¬S cb∧∀o,o<sz→¬(fz.1≤o∧o<fz.2))∨(g b=some (.frz st fl rows)∧S cb))
 dead:∀b,ρ b=.dead→g b=some .dead
 inj:∀b b' cb co st sz co' st' sz',ρ b=.pl cb co st sz→ρ b'=.pl cb co' st' sz'→b=b'
 old:∀b,S b→b<w.heap.size
 lps:∀b l,ρ b=.lp l→∃(r:Obj) (ps:List Nat) (asg body:Code) (tmps:List AV) (st:Uw),w.heap[l]?=some r∧g b=some (.lp ps asg body tmps st)∧iM w S ρ r ps asg body tmps st
 linj:∀b b' l,ρ b=.lp l→ρ b'=.lp l→b=b'
 lnS:∀b l,ρ b=.lp l→¬S l
def upd(g:HF)(b:Nat)(c:CB):HF:=fun i=>if i=b then some c else g i
def Df(g:HF):Ag→HF
 | .new b c=>upd g b c
 | .cells b r o vs=>
   match g b with
   |some (.live st fl _ rows)=>upd g b (.live st (fl&&vs.all AV.flat) true (Ua rows r o vs))
   |_=>g
 | .put b c=>upd g b c
def Bg(g:HF):List Ag→HF
 | []=>g
 |e::es=>Bg (Df g e) es
def Yx:Obj→Bool
 | .cells _ _ _=>true
 | .loop _=>true
 | .map _ _=>true
 | .stringIter _ _=>true
 |_=>false
structure Ip(w w':World)(S S':Nat→Prop)(ρ ρ':Ba):Prop where
 size:w.heap.size≤w'.heap.size
 os:w'.os=w.os
 tape:w'.tape=w.tape
 output:w'.output=w.output
 keep:apW S w w'
 sub:∀b,S b→S' b
 le:ρ.le ρ'
 other:∀b,b<w.heap.size→(∀id co st sz,ρ id≠.pl b co st sz)→(∀id,ρ id≠.lp b)→w'.heap[b]?=w.heap[b]?
 rng:∀id cb co st sz,ρ' id=.pl cb co st sz→w.heap.size≤cb∨∃id co st sz,ρ id=.pl cb co st sz
 grow:∀b,S' b→S b∨w.heap.size≤b∨∃id co st sz,ρ id=.pl b co st sz
 objs:∀(b:Nat) (o:Obj),w.heap[b]?=some o→Yx o=false→w'.heap[b]?=some o
 loops:∀(b:Nat) (r:Loop),w.heap[b]?=some (.loop r)→∃st pe,w'.heap[b]?=some (.loop { r with state:=st,pending:=pe })
 lrng:∀id l,ρ' id=.lp l→w.heap.size≤l∨∃id,ρ id=.lp l
theorem Ip.refl(w:World)(S:Nat→Prop)(ρ:Ba):Ip w w S S ρ ρ:=
 ⟨aiK _,rfl,rfl,rfl,fun _ _=>rfl,fun _ h=>h,ρ.le_refl,fun _ _ _ _=>rfl,fun id _ co st sz h=>.inr ⟨id,co,st,sz,h⟩,fun _ h=>.inl h,fun _ _ h _=>h,fun _ r h=>⟨r.state,r.pending,h⟩,fun id _ h=>.inr ⟨id,h⟩⟩
theorem Ip.trans{w w' w'':World}{S S' S'':Nat→Prop}{ρ ρ' ρ'':Ba}(h:Ip w w' S S' ρ ρ')(k:Ip w' w'' S' S'' ρ' ρ''):Ip w w'' S S'' ρ ρ'' where
 size:=apH h.size k.size
 os:=k.os.trans h.os
 tape:=k.tape.trans h.tape
 output:=k.output.trans h.output
 keep:=fun b hb=>(k.keep b (h.sub b hb)).trans (h.keep b hb)
 sub:=fun b hb=>k.sub b (h.sub b hb)
 le:=Ba.le_trans h.le k.le
 other:=fun b hb hn hl=>by
  rw[k.other b (Nat.lt_of_lt_of_le hb h.size) (fun id co st sz e=>?_) (fun id e=>?_),h.other b hb hn hl]
  ·rcases h.rng id b co st sz e with h1|⟨id',co',st',sz',h1⟩
   ·omega
   ·exact hn _ _ _ _ h1
  ·rcases h.lrng id b e with h1|⟨id',h1⟩
   ·omega
   ·exact hl _ h1
 rng:=fun id cb co st sz e=>by
  rcases k.rng id cb co st sz e with h1|⟨id',co',st',sz',h1⟩
  ·exact .inl (apH h.size h1)
  ·exact h.rng _ _ _ _ _ h1
 grow:=fun b hb=>by
  rcases k.grow b hb with h1|h1|⟨id,co,st,sz,h1⟩
  ·exact h.grow b h1
  ·exact .inr (.inl (apH h.size h1))
  ·exact .inr (h.rng _ _ _ _ _ h1)
 objs:=fun b o hb ho=>k.objs b o (h.objs b o hb ho) ho
 loops:=fun b r hb=>by
  obtain⟨st,pe,h1⟩:=h.loops b r hb
  obtain⟨st',pe',h2⟩:=k.loops b _ h1
  exact⟨st',pe',h2⟩
 lrng:=fun id l e=>by
  rcases k.lrng id l e with h1|⟨id',h1⟩
  ·exact .inl (apH h.size h1)
  ·exact h.lrng _ _ h1
def Ag.id:Ag→Nat
 | .new b _=>b
 | .cells b _ _ _=>b
 | .put b _=>b
def Kw(es:List Ag)(b:Nat):Prop:=∃e∈es,e.id=b
def Zg(E:Nat→Prop)(w w':World)(ρ ρ':Ba):Prop:=∀b cb co st sz,ρ b=.pl cb co st sz→¬E b→ρ' b=.pl cb co st sz∧w'.heap[cb]?=w.heap[cb]?
def aA(es:List Ag)(ρ ρ':Ba):Prop:=∀b,ρ' b=.fresh↔(ρ b=.fresh∧¬Kw es b)
theorem aA.refl{ρ:Ba}:aA [] ρ ρ:=fun b=>⟨fun h=>⟨h,fun⟨e,he,_⟩=>by simp at he⟩,fun h=>h.1⟩
theorem Zg.refl{E:Nat→Prop}{w:World}{ρ:Ba}:Zg E w w ρ ρ:=fun _ _ _ _ _ h _=>⟨h,rfl⟩
theorem Zg.trans{E E':Nat→Prop}{w w' w'':World}{ρ ρ' ρ'':Ba}(h:Zg E w w' ρ ρ')(k:Zg E' w' w'' ρ' ρ''):Zg (fun b=>E b∨E' b) w w'' ρ ρ'':=fun b cb co st sz hb hn=>by
 obtain⟨h1,h2⟩:=h b cb co st sz hb (fun e=>hn (.inl e))
 obtain⟨h3,h4⟩:=k b cb co st sz h1 (fun e=>hn (.inr e))
 exact⟨h3,h4.trans h2⟩
theorem Zg.mono{E E':Nat→Prop}{w w':World}{ρ ρ':Ba}(h:Zg E w w' ρ ρ')(hE:∀b,E b→E' b):Zg E' w w' ρ ρ':=fun b cb co st sz hb hn=>h b cb co st sz hb (fun e=>hn (hE b e))
theorem VR.sim{w w':World}{S S':Nat→Prop}{ρ ρ':Ba}(h:Ip w w' S S' ρ ρ'){x:AV}{v:Value}(k:VR w S ρ x v):VR w' S' ρ' x v:=k.mono h.keep h.sub h.le
theorem LR.sim{w w':World}{S S':Nat→Prop}{ρ ρ':Ba}(h:Ip w w' S S' ρ ρ'){x:List AV}{v:List Value}(k:LR w S ρ x v):LR w' S' ρ' x v:=
 ⟨k.1,fun i a b ha hb=>(k.2 i a b ha hb).sim h⟩
theorem jU{w:World}{S:Nat→Prop}{ρ:Ba}{v:Value}{x:AV}(h:nA v=some x):VR w S ρ x v:=by
 unfold nA at h
 split at h<;>simp at h<;>subst h
 ·exact .bool _
 ·exact .int _ _
 ·exact .str _
 ·exact .nilp
 ·exact .nils
 ·exact .nilf
 ·exact .nili
 ·exact .nilm
theorem Ib{α β:Type}{f:α→Option β}:∀{l:List α} {r:List β},Cb f l=some r→l.length=r.length∧∀(i:Nat) (b:β),r[i]?=some b→∃a,l[i]?=some a∧f a=some b
 | [],r,h=>by simp[Cb]at h;subst h;exact⟨rfl,fun i b hb=>by simp at hb⟩
 |a::l,r,h=>by
  simp only[Cb,acE,acZ]at h
  obtain⟨b,hb,bs,hbs,rfl⟩:=h
  obtain⟨h1,h2⟩:=Ib hbs
  refine⟨by simp[h1],fun i c hc=>?_⟩
  cases i with
  |zero=>simp at hc;subst hc;exact⟨a,rfl,hb⟩
  |succ i=>simp at hc;simpa using h2 i c hc
theorem aT{α β:Type}{f:α→Option β}{l:List α}{r:List β}(h:Cb f l=some r){i:Nat}{a:α}(ha:l[i]?=some a):∃b,r[i]?=some b∧f a=some b:=by
 obtain⟨h1,h2⟩:=Ib h
 have hi:i<l.length:=(adD.1 ha).1
 obtain⟨a',ha',hf⟩:=h2 i (r[i]'(h1▸hi)) (acK _)
 rw[ha]at ha';cases ha'
 exact⟨_,acK _,hf⟩
theorem Rw{w:World}{S:Nat→Prop}{ρ:Ba}{v:Value}{x:AV}(h:aeB v=some x):VR w S ρ x v:=by
 unfold aeB at h
 split at h
 ·rename_i cs
  obtain⟨l,hl,rfl⟩:=acZ.1 h
  obtain⟨h1,h2⟩:=Ib hl
  refine .agg (by simpa using h1.symm) fun i y u hy hu=>?_
  obtain⟨u',hu',he⟩:=h2 i y hy
  rw[al3,hu]at hu';cases hu'
  exact jU he
 ·rename_i cs
  obtain⟨l,hl,rfl⟩:=acZ.1 h
  obtain⟨h1,h2⟩:=Ib hl
  refine .tup (by simpa using h1.symm) fun i y u hy hu=>?_
  obtain⟨u',hu',he⟩:=h2 i y hy
  rw[al3,hu]at hu';cases hu'
  exact jU he
 ·exact jU h
theorem Zc{w:World}{S:Nat→Prop}{ρ:Ba}:VR w S ρ (.tup []) undef:=.tup rfl fun i x v hx=>by simp at hx
abbrev TR(w:World)(S:Nat→Prop)(ρ:Ba)(tmps:List AV)(ct:Array Value):Prop:=LR w S ρ tmps ct.toList
theorem iI{w:World}{S:Nat→Prop}{ρ:Ba}{tmps:List AV}{ct:Array Value}(T:TR w S ρ tmps ct)(t:Nat):VR w S ρ (Ov tmps t) (ct.getD t undef):=by
 rw[qT]
 by_cases ht:t<tmps.length
 ·have h2:t<ct.size:=by have:=T.1;simpa [this]using ht
  have e1:tmps[t]?=some tmps[t]:=acK ht
  have e2:ct.toList[t]?=some ct[t]:=by simp[al3,h2]
  rw[e1];simp only[Option.getD_some,Array.getD,h2,dif_pos]
  exact T.2 t _ _ e1 e2
 ·have h2:¬t<ct.size:=by have:=T.1;simp at this;omega
  rw[anF (by omega)]
  simp only[Option.getD_none,Array.getD,h2,dif_neg,not_false_eq_true]
  exact Zc
theorem Az{w:World}{S:Nat→Prop}{ρ:Ba}{tmps:List AV}{a:Act}(T:TR w S ρ tmps a.tmps){x:Operand}{v:AV}(h:Ai tmps x=some v):VR w S ρ v (a.eval x):=by
 cases x with
 |tmp t=>simp[Ai]at h;subst h;exact iI T t
 |const c=>exact Rw h
 |global g=>simp[Ai]at h
 |func f=>simp[Ai]at h;subst h;exact .func rfl rfl (fun i x v hx=>by simp at hx) (fun i x v hx=>by simp at hx)
theorem Tc{w:World}{S:Nat→Prop}{ρ:Ba}{tmps:List AV}{a:Act}(T:TR w S ρ tmps a.tmps):∀{xs:List Operand} {vs:List AV},Dt tmps xs=some vs→
 LR w S ρ vs (xs.map a.eval)
 | [],vs,h=>by simp[Dt]at h;subst h;exact⟨rfl,fun i x v hx=>by simp at hx⟩
 |x::xs,vs,h=>by
  simp only[Dt,acE,acZ]at h
  obtain⟨v,hv,l,hl,rfl⟩:=h
  have ih:=Tc T hl
  refine⟨by simp[ih.1],fun i y u hy hu=>?_⟩
  cases i with
  |zero=>simp at hy hu;subst hy hu;exact Az T hv
  |succ i=>simp at hy hu;exact ih.2 i y u hy (by simpa using hu)
theorem LR.nil{w:World}{S:Nat→Prop}{ρ:Ba}:LR w S ρ [] []:=⟨rfl,fun i x v hx=>by simp at hx⟩
theorem LR.cons{w:World}{S:Nat→Prop}{ρ:Ba}{x:AV}{v:Value}{xs:List AV}{vs:List Value}(h:VR w S ρ x v)(k:LR w S ρ xs vs):LR w S ρ (x::xs) (v::vs):=
 ⟨by simp[k.1],fun i y u hy hu=>by
   cases i with
   |zero=>simp at hy hu;subst hy hu;exact h
   |succ i=>simp at hy hu;exact k.2 i y u hy hu⟩
theorem LR.cons_inv{w:World}{S:Nat→Prop}{ρ:Ba}{x:AV}{xs:List AV}{vs:List Value}(h:LR w S ρ (x::xs) vs):∃v vs',vs=v::vs'∧VR w S ρ x v∧LR w S ρ xs vs':=by
 cases vs with
 |nil=>have:=h.1;simp at this
 |cons v vs=>exact⟨v,vs,rfl,h.2 0 x v rfl rfl,by have:=h.1;simpa using this,fun i y u hy hu=>h.2 (i+1) y u (by simpa using hy) (by simpa using hu)⟩
theorem LR.nil_inv{w:World}{S:Nat→Prop}{ρ:Ba}{vs:List Value}(h:LR w S ρ [] vs):vs=[]:=by
 have:=h.1;simp at this;exact List.length_eq_zero_iff.1 this.symm
theorem LR.append{w:World}{S:Nat→Prop}{ρ:Ba}:∀{xs ys:List AV} {vs us:List Value},LR w S ρ xs vs→LR w S ρ ys us→LR w S ρ (xs++ys) (vs++us)
 | [],ys,vs,us,h,k=>by rw[h.nil_inv];exact k
 |x::xs,ys,vs,us,h,k=>by obtain⟨v,vs',rfl,h1,h2⟩:=h.cons_inv;exact .cons h1 (h2.append k)
theorem LR.take{w:World}{S:Nat→Prop}{ρ:Ba}{xs:List AV}{vs:List Value}(h:LR w S ρ xs vs)(n:Nat):LR w S ρ (xs.take n) (vs.take n):=
 ⟨by simp[h.1],fun i y u hy hu=>by
   rw[al2]at hy hu
   split at hy
   ·rename_i hi;rw[if_pos hi]at hu;exact h.2 i y u hy hu
   ·simp at hy⟩
theorem LR.drop{w:World}{S:Nat→Prop}{ρ:Ba}{xs:List AV}{vs:List Value}(h:LR w S ρ xs vs)(n:Nat):LR w S ρ (xs.drop n) (vs.drop n):=
 ⟨by simp[h.1],fun i y u hy hu=>by rw[ahZ]at hy hu;exact h.2 _ y u hy hu⟩
theorem LR.set{w:World}{S:Nat→Prop}{ρ:Ba}{xs:List AV}{vs:List Value}(h:LR w S ρ xs vs)(n:Nat){x:AV}{v:Value}(k:VR w S ρ x v):LR w S ρ (xs.set n x) (vs.set n v):=
 ⟨by simp[h.1],fun i y u hy hu=>by
   rw[apN]at hy hu
   split at hy
   ·rename_i hi;rw[if_pos hi]at hu
    split at hy
    ·simp at hy;split at hu
     ·simp at hu;subst hy hu;exact k
     ·simp at hu
    ·simp at hy
   ·rename_i hi;rw[if_neg hi]at hu;exact h.2 i y u hy hu⟩
theorem af8{w:World}{S:Nat→Prop}{ρ:Ba}{tmps:List AV}{a:Act}(T:TR w S ρ tmps a.tmps)(d:Option Nat){x:AV}{v:Value}(k:VR w S ρ x v):
 TR w S ρ (put tmps d x) (a.put d v).tmps:=by
 cases d with
 |none=>exact T
 |some d=>simpa [put,fE,Act.put,TR,Array.toList_setIfInBounds]using T.set d k
theorem aaM{v:Value}(h:Value.isCell v=true):v.oneCell'=true:=by cases v<;>first|rfl|(simp[Value.isCell]at h)
def setB(w:World)(g:Nat)(o:Obj):World:={ w with heap:=w.heap.setIfInBounds g o }
theorem bA{w:World}{g:Nat}{o o':Obj}(h:w.heap[g]?=some o'):(setB w g o).heap[g]?=some o:=by
 have:g<w.heap.size:=(ah3.1 h).1
 simp[setB,this]
theorem Bj{w:World}{g k:Nat}{o:Obj}(h:k≠g):(setB w g o).heap[k]?=w.heap[k]?:=by
 simp[setB,Array.getElem?_setIfInBounds_ne (Ne.symm h)]
theorem amX{w:World}{g i:Nat}{cur:Array Value}{t:TypeId}{fz:Nat × Nat}(h:w.heap[g]?=some (.cells cur t fz))(v:Value):
 w.setCell ⟨g,i,none⟩ v=setB w g (.cells (cur.setIfInBounds i v) t fz):=by
 unfold World.setCell setB
 congr 1
 apply avO
 intro k
 rw[Array.getElem?_modify,as6]
 have hg:g<w.heap.size:=(ah3.1 h).1
 by_cases hk:g=k
 ·subst hk
  have h':w.heap[g]=.cells cur t fz:=by simpa [Array.getElem?_eq_getElem hg]using h
  simp[hg,h']
 ·simp[hk]
theorem pW{w:World}{g i:Nat}{cur:Array Value}{t:TypeId}{fz:Nat × Nat}(h:w.heap[g]?=some (.cells cur t fz)):w.cell? ⟨g,i,none⟩=cur[i]?:=cell_of_row w g i cur t fz h
theorem agK{w:World}{g i:Nat}{cur:Array Value}{t:TypeId}{fz:Nat × Nat}(h:w.heap[g]?=some (.cells cur t fz))(hz:¬(fz.1≤i∧i<fz.2)):w.frozen? ⟨g,i,none⟩=false:=by
 obtain⟨lo,hi⟩:=fz
 simp only[World.frozen?,h]
 simp at hz ⊢
 omega
def Uz(cur:Array Value)(o:Nat):List Value→Array Value
 | []=>cur
 |v::vs=>Uz (cur.setIfInBounds o v) (o+1) vs
theorem Vg:∀(vs:List Value) (cur:Array Value) (o:Nat),(Uz cur o vs).size=cur.size
 | [],_,_=>rfl
 |v::vs,cur,o=>by simp[Uz,Vg vs]
theorem gU:∀(vs:List Value) (cur:Array Value) (o j:Nat),o+vs.length≤cur.size→(Uz cur o vs)[j]?=if o≤j∧j<o+vs.length then vs[j-o]? else cur[j]?
 | [],cur,o,j,_=>by simp[Uz];omega
 |v::vs,cur,o,j,h=>by
  simp at h
  rw[Uz,gU vs _ _ _ (by simp;omega)]
  by_cases h1:o+1≤j∧j<o+1+vs.length
  ·rw[if_pos h1,if_pos (by simp;omega)]
   have:j-o=(j-(o+1))+1:=by omega
   rw[this];simp
  ·rw[if_neg h1,as6]
   by_cases h2:o=j
   ·subst h2;rw[if_pos rfl,if_pos (by omega),if_pos (by simp)];simp
   ·rw[if_neg h2,if_neg (by simp;omega)]
theorem arG(w:World)(g:Nat)(o o':Obj):setB (setB w g o) g o'=setB w g o':=by
 simp[setB]
theorem bP{P:Program}{g o:Nat}{t:TypeId}{fz:Nat × Nat}:∀(vs:List Value) (i:Nat) (cur:Array Value) (w:World),w.heap[g]?=some (.cells cur t fz)→o+i+vs.length≤cur.size→
 (∀j,o+i≤j→j<o+i+vs.length→¬(fz.1≤j∧j<fz.2))→(∀v∈vs,Value.isCell v=true)→
 (storeCells ⟨g,o,none⟩ vs i).run P w=.ok () (setB w g (.cells (Uz cur (o+i) vs) t fz))
 | [],i,cur,w,hg,_,_,_=>by
   have:setB w g (.cells cur t fz)=w:=by
    unfold setB
    have:w.heap.setIfInBounds g (.cells cur t fz)=w.heap:=by
     apply avO
     intro k
     rw[as6]
     split
     ·rename_i h;subst h;rw[hg];simp[(ah3.1 hg).1]
     ·rfl
    rw[this]
   simp[storeCells,Uz,this]
 |v::vs,i,cur,w,hg,hl,hz,hc=>by
  simp at hl
  have hadd:(⟨g,o,none⟩:Addr).add i=⟨g,o+i,none⟩:=by unfold Addr.add;split<;>simp_all
  have hcell:w.cell? ⟨g,o+i,none⟩=some (cur[o+i]'(by omega)):=by rw[pW hg];simp[show o+i<cur.size by omega]
  have hfz:w.frozen? ⟨g,o+i,none⟩=false:=agK hg (hz _ (aiK _) (by simp))
  have hset:=amX hg v (i:=o+i)
  have ih:=bP (P:=P) (g:=g) (o:=o) (t:=t) (fz:=fz) vs (i+1) (cur.setIfInBounds (o+i) v) (setB w g (.cells (cur.setIfInBounds (o+i) v) t fz)) (bA hg) (by simp;omega)
   (fun j h1 h2=>hz j (by omega) (by simp;omega)) (fun v hv=>hc v (ap9 _ hv))
  simp only[storeCells,Sem.run_bind,hadd,run_store _ _ _ _ _ (aaM (hc v (al6 ..))),hcell,hfz,hset]
  simp only[av2,if_false,Result.andThen_ok]
  rw[ih,arG]
  rfl
theorem Ip.setB{w:World}{S:Nat→Prop}{ρ:Ba}{id cb co st sz:Nat}(h:ρ id=.pl cb co st sz)(hS:¬S cb)(hcl:∃c e f,w.heap[cb]?=some (.cells c e f))(o:Obj):Ip w (setB w cb o) S S ρ ρ where
 size:=by simp[Ev.setB]
 os:=rfl
 tape:=rfl
 output:=rfl
 keep:=fun b hb=>Bj (fun e=>hS (e▸hb))
 sub:=fun _ h=>h
 le:=ρ.le_refl
 other:=fun b _ hn _=>Bj (fun e=>hn id co st sz (e▸h))
 rng:=fun id _ co st sz h=>.inr ⟨id,co,st,sz,h⟩
 grow:=fun _ h=>.inl h
 objs:=fun b o' hb ho=>by
  obtain⟨c,e,f,hc⟩:=hcl
  rw[Bj (fun e=>by rw[e,hc]at hb;cases hb;simp[Yx]at ho)];exact hb
 loops:=fun b r hb=>by
  obtain⟨c,e,f,hc⟩:=hcl
  refine⟨r.state,r.pending,?_⟩
  rw[Bj (fun e=>by rw[e,hc]at hb;cases hb)];exact hb
 lrng:=fun id _ h=>.inr ⟨id,h⟩
def Ba.put(ρ:Ba)(b:Nat)(r:RS):Ba:=fun i=>if i=b then r else ρ i
theorem Ba.put_same(ρ:Ba)(b:Nat)(r:RS):ρ.put b r b=r:=by simp[Ba.put]
theorem Ba.put_other(ρ:Ba){b i:Nat}(r:RS)(h:i≠b):ρ.put b r i=ρ i:=by simp[Ba.put,h]
theorem Ba.le_put_fresh{ρ:Ba}{b:Nat}(h:ρ b=.fresh)(r:RS):ρ.le (ρ.put b r):=fun i=>by
 by_cases hi:i=b
 ·subst hi;exact .inl h
 ·exact .inr (.inl (Ba.put_other ρ r hi))
theorem Ba.le_put_dead(ρ:Ba)(b:Nat):ρ.le (ρ.put b .dead):=fun i=>by
 by_cases hi:i=b
 ·subst hi;exact .inr (.inr (Ba.put_same ρ i .dead))
 ·exact .inr (.inl (Ba.put_other ρ .dead hi))
theorem Ef{w:World}{o:Obj}{k:Nat}(h:k<w.heap.size):(w.alloc o).heap[k]?=w.heap[k]?:=Below.heap_alloc w o k h
theorem lL{w:World}{o:Obj}:(w.alloc o).heap[w.heap.size]?=some o:=heap_alloc_new w o
theorem Ih.sim{w w':World}{S S':Nat→Prop}{ρ ρ':Ba}(h:Ip w w' S S' ρ ρ'){c:Array Value}{co st:Nat}{fl:Bool}{rows:List (List AV)}(k:Ih w S ρ c co st fl rows):
 Ih w' S' ρ' c co st fl rows:=
 ⟨k.len,k.wide,k.flat,fun i r j x hr hx=>by obtain⟨v,h1,h2⟩:=k.cell i r j x hr hx;exact⟨v,h1,h2.sim h⟩,k.isCell⟩
theorem Ip.drew(w:World)(S:Nat→Prop)(ρ:Ba):Ip w w.drew S S ρ ρ:=
 ⟨aiK _,rfl,rfl,rfl,fun _ _=>rfl,fun _ h=>h,ρ.le_refl,fun _ _ _ _=>rfl,fun id _ co st sz h=>.inr ⟨id,co,st,sz,h⟩,fun _ h=>.inl h,fun _ _ h _=>h,fun _ r h=>⟨r.state,r.pending,h⟩,fun id _ h=>.inr ⟨id,h⟩⟩
theorem ag7.sim{w w':World}{S S':Nat→Prop}{ρ ρ':Ba}(h:Ip w w' S S' ρ ρ'){r:Loop}{ps:List Nat}{asg body:Code}{tmps:List AV}{st:Uw}(k:ag7 w S ρ r ps asg body tmps st):ag7 w' S' ρ' r ps asg body tmps st:=
 ⟨k.params,k.assign,k.body,LR.sim h k.tmps,k.state⟩
theorem iM.sim{w w':World}{S S':Nat→Prop}{ρ ρ':Ba}(h:Ip w w' S S' ρ ρ'){r:Obj}{ps:List Nat}{asg body:Code}{tmps:List AV}{st:Uw}(k:iM w S ρ r ps asg body tmps st):iM w' S' ρ' r ps asg body tmps st:=by
 cases k with
 |loop k=>exact .loop (k.sim h)
 |map k=>exact .map (LR.sim h k)
 |itr k=>exact .itr (LR.sim h k)
theorem HR.drew{w:World}{S:Nat→Prop}{ρ:Ba}{g:HF}(H:HR w S ρ g):HR w.drew S ρ g where
 at_:=fun b cb co st sz h=>by
  obtain⟨c,e,fz,fl,rows,h1,h2,h3,h4⟩:=H.at_ b cb co st sz h
  exact⟨c,e,fz,fl,rows,h1,h2,h3.sim (Ip.drew w S ρ),h4⟩
 dead:=H.dead
 inj:=H.inj
 old:=H.old
 lps:=fun b l h=>by
  obtain⟨r,ps,asg,body,tmps,st,h1,h2,h3⟩:=H.lps b l h
  exact⟨r,ps,asg,body,tmps,st,h1,h2,h3.sim (Ip.drew w S ρ)⟩
 linj:=H.linj
 lnS:=H.lnS
theorem Ip.alloc{w:World}{S:Nat→Prop}{ρ:Ba}{base:Nat}(hb:ρ base=.fresh)(hS:∀b,S b→b<w.heap.size)(o:Obj)(co st sz:Nat):Ip w (w.alloc o) S S ρ (ρ.put base (.pl w.heap.size co st sz)) where
 size:=by simp
 os:=rfl
 tape:=rfl
 output:=rfl
 keep:=fun b hb=>Ef (hS b hb)
 sub:=fun _ h=>h
 le:=Ba.le_put_fresh hb _
 other:=fun b h _ _=>Ef h
 rng:=fun id cb co' st' sz' h=>by
  by_cases hi:id=base
  ·subst hi;rw[Ba.put_same]at h;cases h;exact .inl (aiK _)
  ·rw[Ba.put_other _ _ hi]at h;exact .inr ⟨id,_,_,_,h⟩
 grow:=fun _ h=>.inl h
 objs:=fun b o' hb _=>by rw[Ef (ah3.1 hb).1];exact hb
 loops:=fun b r hb=>⟨r.state,r.pending,by rw[Ef (ah3.1 hb).1];exact hb⟩
 lrng:=fun id l h=>by
  by_cases hi:id=base
  ·subst hi;rw[Ba.put_same]at h;cases h
  ·rw[Ba.put_other _ _ hi]at h;exact .inr ⟨id,h⟩
theorem HR.alloc{w:World}{S:Nat→Prop}{ρ:Ba}{g:HF}(H:HR w S ρ g){base:Nat}(hb:ρ base=.fresh){c:Array Value}{st:Nat}{fl wr:Bool}{rows:List (List AV)}
 (k:Ih w S ρ c 0 st fl rows) (e:TypeId):HR (w.alloc (.cells c e)) S (ρ.put base (.pl w.heap.size 0 st c.size)) (upd g base (.live st fl wr rows)) where
 at_:=fun b cb co st' sz h=>by
  have hs:=Ip.alloc hb H.old (.cells c e) 0 st c.size
  by_cases hi:b=base
  ·subst hi;rw[Ba.put_same]at h;cases h
   refine⟨c,e,(0,0),fl,rows,lL,rfl,k.sim hs,.inl ⟨⟨wr,by simp[upd]⟩,fun h=>?_,fun o _ h=>by simp at h⟩⟩
   have:=H.old _ h;omega
  ·rw[Ba.put_other _ _ hi]at h
   obtain⟨c',e',fz,fl',rows',h1,h2,h3,h4⟩:=H.at_ b cb co st' sz h
   refine⟨c',e',fz,fl',rows',?_,h2,h3.sim hs,by simpa [upd,hi]using h4⟩
   rw[Ef (ah3.1 h1).1];exact h1
 dead:=fun b h=>by
  by_cases hi:b=base
  ·subst hi;rw[Ba.put_same]at h;cases h
  ·rw[Ba.put_other _ _ hi]at h;simpa [upd,hi]using H.dead b h
 inj:=fun b b' cb co st1 sz co' st' sz' h h'=>by
  by_cases hi:b=base<;>by_cases hi':b'=base
  ·rw[hi,hi']
  ·subst hi;rw[Ba.put_same]at h;rw[Ba.put_other _ _ hi']at h';cases h
   obtain⟨c',e',fz,fl',rows',h1,_⟩:=H.at_ _ _ _ _ _ h'
   have:=(ah3.1 h1).1;omega
  ·subst hi';rw[Ba.put_same]at h';rw[Ba.put_other _ _ hi]at h;cases h'
   obtain⟨c',e',fz,fl',rows',h1,_⟩:=H.at_ _ _ _ _ _ h
   have:=(ah3.1 h1).1;omega
  ·rw[Ba.put_other _ _ hi]at h;rw[Ba.put_other _ _ hi']at h';exact H.inj _ _ _ _ _ _ _ _ _ h h'
 old:=fun b h=>by have:=H.old b h;simp;omega
 lps:=fun b l h=>by
  by_cases hi:b=base
  ·subst hi;rw[Ba.put_same]at h;cases h
  ·rw[Ba.put_other _ _ hi]at h
   obtain⟨r,ps,asg,body,tmps,st',h1,h2,h3⟩:=H.lps b l h
   exact⟨r,ps,asg,body,tmps,st',by rw[Ef (ah3.1 h1).1];exact h1,by simpa [upd,hi]using h2,h3.sim (Ip.alloc hb H.old (.cells c e) 0 st c.size)⟩
 linj:=fun b b' l h h'=>by
  have hn:∀x,ρ.put base (.pl w.heap.size 0 st c.size) x=.lp l→ρ x=.lp l:=fun x hx=>by
   by_cases hi:x=base
   ·subst hi;rw[Ba.put_same]at hx;cases hx
   ·rw[Ba.put_other _ _ hi]at hx;exact hx
  exact H.linj b b' l (hn b h) (hn b' h')
 lnS:=fun b l h=>by
  by_cases hi:b=base
  ·subst hi;rw[Ba.put_same]at h;cases h
  ·rw[Ba.put_other _ _ hi]at h;exact H.lnS b l h
theorem HR.setLive{w:World}{S:Nat→Prop}{ρ:Ba}{g:HF}(H:HR w S ρ g){b cb co st sz:Nat}(hb:ρ b=.pl cb co st sz)(hS:¬S cb){c:Array Value}{e:TypeId}{fz:Nat × Nat}
 (hsz:c.size=sz) (hfz:∀o,o<sz→¬(fz.1≤o∧o<fz.2)) {fl wr:Bool} {rows:List (List AV)} (hg:∃c e f,w.heap[cb]?=some (.cells c e f))
 (k:Ih w S ρ c co st fl rows):HR (setB w cb (.cells c e fz)) S ρ (upd g b (.live st fl wr rows)) where
 at_:=fun b' cb' co' st' sz' h=>by
  have hs:=Ip.setB (w:=w) hb hS hg (.cells c e fz)
  by_cases hi:b'=b
  ·subst hi;rw[hb]at h;cases h
   obtain⟨_,_,_,ho⟩:=hg
   exact⟨c,e,fz,fl,rows,bA ho,hsz,k.sim hs,.inl ⟨⟨wr,by simp[upd]⟩,hS,hfz⟩⟩
  ·obtain⟨c',e',fz',fl',rows',h1,h2,h3,h4⟩:=H.at_ b' cb' co' st' sz' h
   have hne:cb'≠cb:=fun e=>hi (H.inj _ _ _ _ _ _ _ _ _ h (e▸hb))
   exact⟨c',e',fz',fl',rows',by rw[Bj hne];exact h1,h2,h3.sim hs,by simpa [upd,hi]using h4⟩
 dead:=fun b' h=>by
  by_cases hi:b'=b
  ·subst hi;rw[hb]at h;cases h
  ·simpa [upd,hi]using H.dead b' h
 inj:=H.inj
 old:=fun b h=>by have:=H.old b h;simpa [setB]using this
 lps:=fun b' l h=>by
  have hi:b'≠b:=fun q=>by subst q;rw[hb]at h;cases h
  have hs:=Ip.setB (w:=w) hb hS hg (.cells c e fz)
  obtain⟨r,ps,asg,body,tmps,st',h1,h2,h3⟩:=H.lps b' l h
  refine⟨r,ps,asg,body,tmps,st',?_,by simpa [upd,hi]using h2,h3.sim hs⟩
  obtain⟨_,_,_,ho⟩:=hg
  rw[Bj (fun q=>by subst q;rw[ho]at h1;cases h1;exact h3.cells)];exact h1
 linj:=H.linj
 lnS:=H.lnS
theorem HR.lt{w:World}{S:Nat→Prop}{ρ:Ba}{g:HF}(H:HR w S ρ g){b cb co st sz:Nat}(h:ρ b=.pl cb co st sz):cb<w.heap.size:=by
 obtain⟨c',e',fz,fl',rows',h1,_⟩:=H.at_ _ _ _ _ _ h
 exact(ah3.1 h1).1
theorem HR.apart{w:World}{S:Nat→Prop}{ρ:Ba}{g:HF}(H:HR w S ρ g){b b' l co st sz:Nat}(h:ρ b=.lp l)(h':ρ b'=.pl l co st sz):False:=by
 obtain⟨r,ps,asg,body,tmps,st',q1,_,q3⟩:=H.lps b l h
 obtain⟨_,_,_,_,_,q2,_⟩:=H.at_ _ _ _ _ _ h'
 rw[q1]at q2;cases q2;exact q3.cells
theorem Zg.alloc{w:World}{S:Nat→Prop}{ρ:Ba}{g:HF}(H:HR w S ρ g){base:Nat}(hb:ρ base=.fresh)(E:Nat→Prop)(o:Obj)(r:RS):Zg E w (w.alloc o) ρ (ρ.put base r):=fun b cb co st sz h _=>by
 refine⟨?_,Ef (H.lt h)⟩
 rw[Ba.put_other _ _ (fun e=>by rw[e,hb]at h;cases h)];exact h
theorem aA.alloc{ρ:Ba}{base:Nat}{c:CB}{cb co st sz:Nat}:aA [.new base c] ρ (ρ.put base (.pl cb co st sz)):=fun b=>by
 by_cases h:b=base
 ·subst h;rw[Ba.put_same];simp[Kw,Ag.id]
 ·rw[Ba.put_other _ _ h];simp[Kw,Ag.id];intro _ e;exact h e.symm
theorem aA.cells{ρ:Ba}{b r o cb co st sz:Nat}{vs:List AV}(h:ρ b=.pl cb co st sz):aA [.cells b r o vs] ρ ρ:=fun b'=>by
 simp[Kw,Ag.id];intro h' e;subst e;rw[h]at h';cases h'
theorem aA.rebase{ρ:Ba}{b base cb co st sz cb' co' st' sz':Nat}{c c':CB}(h:ρ b=.pl cb co st sz):aA [.put b c,.new base c'] ρ ((ρ.put b .dead).put base (.pl cb' co' st' sz')):=fun i=>by
 by_cases h1:i=base
 ·subst h1;rw[Ba.put_same];simp[Kw,Ag.id]
 ·rw[Ba.put_other _ _ h1]
  by_cases h2:i=b
  ·subst h2;rw[Ba.put_same];simp[Kw,Ag.id]
  ·rw[Ba.put_other _ _ h2];simp[Kw,Ag.id];intro _;exact⟨fun e=>h2 e.symm,fun e=>h1 e.symm⟩
theorem Zg.setB{w:World}{S:Nat→Prop}{ρ:Ba}{g:HF}(H:HR w S ρ g){b cb co st sz:Nat}(h:ρ b=.pl cb co st sz){E:Nat→Prop}(hE:E b)(o:Obj):Zg E w (Ev.setB w cb o) ρ ρ:=fun b' cb' co' st' sz' h' hn=>by
 refine⟨h',Bj fun e=>?_⟩
 subst e
 exact hn ((H.inj _ _ _ _ _ _ _ _ _ h h')▸hE)
section
variable {P:Program} {w:World} {S:Nat→Prop} {ρ:Ba}
theorem akW{t:TypeId}{n:Nat}(h:bG P t=some n):∃i,P.info? t=some i∧i.size=n:=by
 simpa [bG]using h
theorem ajT{t:TypeId}{n:Nat}(h:byT P t=some n):∃i,P.info? t=some i∧i.bytes=n:=by
 simpa [byT]using h
theorem Eb{t:TypeId}{n:Nat}(h:bG P t=some n)(w:World):(sizeOf t).run P w=.ok n w:=by
 obtain⟨i,hi,rfl⟩:=akW h
 simp[sizeOf,typeInfo,hi]
theorem lM{t:TypeId}{b:Bool}(h:xF P t=some b)(w:World):(isAgg t).run P w=.ok b w:=by
 unfold xF at h
 split at h<;>simp at h<;>subst h
 ·rename_i h';simp[isAgg,run_underlying h']
 ·rename_i h';simp[isAgg,run_underlying h']
 ·rename_i d h1 h2 h'
  simp only[isAgg,Sem.run_bind,run_underlying h',Result.andThen_ok]
  cases d<;>first|rfl|exact(h1 _ rfl).elim|exact(h2 _ _ rfl).elim
theorem aZ{t:TypeId}{z:AV}(h:Le P t=some z):∃(i:TypeInfo) (cz:Value),P.info? t=some i∧i.zero=some cz∧aeB cz=some z∧∀w,(zeroValue t).run P w=.ok cz w:=by
 simp only[Le,acE]at h
 obtain⟨cz,⟨i,hi,hz⟩,hv⟩:=h
 exact⟨i,cz,hi,hz,hv,fun w=>by simp[zeroValue,typeInfo,hi,hz]⟩
theorem Rk{t:TypeId}{isA:Bool}(hA:xF P t=some isA){cs:List AV}{vs:Array Value}(hl:cs.length=vs.size)
 (hc:∀(i:Nat) (x:AV) (v:Value),cs[i]?=some x→vs[i]?=some v→VR w S ρ x v) {off:Nat} {v:AV}
 (h:(if isA then(bG P t).map fun n=>AV.agg ((cs.drop off).take n)else cs[off]?)=some v):
 ∃cv,(part t vs off).run P w=.ok cv w∧VR w S ρ v cv:=by
 cases isA with
 |true=>
  simp only[if_true,acZ]at h
  obtain⟨n,hn,rfl⟩:=h
  refine⟨.agg (vs.extract off (off+n)),by simp[part,lM hA,Eb hn],.agg ?_ ?_⟩
  ·simp[hl];omega
  ·intro i x u hx hu
   rw[al2,ahZ]at hx
   split at hx
   ·rw[Array.getElem?_extract]at hu
    split at hu
    ·exact hc _ x u hx hu
    ·simp at hu
   ·simp at hx
 |false=>
  simp only[av2,if_false]at h
  have hlt:off<vs.size:=by have:=(adD.1 h).1;omega
  exact⟨vs[off],by simp[part,lM hA,hlt],hc off v _ h (by simp[hlt])⟩
theorem akH{t:TypeId}{x:AV}{cx:Value}{f:Nat}{v:AV}(h:amG P t x f=some v)(hx:VR w S ρ x cx):
 ∃cv,(Instr.field t cx f).run P w=.ok cv w∧VR w S ρ v cv:=by
 unfold amG at h
 split at h
 ·rename_i fs cs hu
  simp only[acE]at h
  obtain⟨fd,hfd,isA,hA,h⟩:=h
  cases hx with
  | @agg _ _ vs hl hc=>
    obtain⟨cv,h1,h2⟩:=Rk hA hl hc h
    exact⟨cv,by simp[Instr.field,run_underlying hu,hfd,asAgg,h1],h2⟩
 ·simp at h
theorem Ij(b o n:Nat):(⟨b,o,none⟩:Addr).add n=⟨b,o+n,none⟩:=by
 unfold Addr.add;split
 ·rename_i h;subst h;rfl
 ·rfl
theorem xI{t:TypeId}{x:AV}{cx:Value}{f:Nat}{v:AV}(h:Xu P t x f=some v)(hx:VR w S ρ x cx):
 ∃cv,(Instr.fieldAt t cx f).run P w=.ok cv w∧VR w S ρ v cv:=by
 unfold Xu at h
 split at h
 ·rename_i fs hu
  simp only[acE]at h
  obtain⟨fd,hfd,n,hn,h⟩:=h
  split at h
  ·simp at h
  ·rename_i h0
   have key:∀a:Addr,(Instr.fieldAt t (.pointer (some a)) f).run P w=.ok (.pointer (some (a.add fd.offset))) w:=fun a=>by
    simp[Instr.fieldAt,run_underlying hu,hfd,Instr.sureAddr,fieldPlace,Eb hn,h0]
   split at h
   ·rename_i b r o
    simp at h;subst h
    cases hx with
    | @ptr _ _ _ _ cb co st sz hρ=>exact⟨_,key _,by rw[Ij,an5];exact .ptr hρ⟩
    |ptrD hρ=>exact⟨_,key _,.ptrD hρ⟩
   ·rename_i cs
    split at h
    ·rename_i hle
     simp at h;subst h
     cases hx with
     |iptr g hs hc hv=>
      refine⟨_,key _,?_⟩
      rw[Ij]
      exact .iptr (fun i=>g (fd.offset+i)) hs (fun i x hx=>by rw[ahZ]at hx;rw[an5];exact hc _ x hx)
       (fun ρ' i x hx=>by rw[ahZ]at hx;exact hv ρ' _ x hx)
    ·simp at h
   ·simp at h
 ·simp at h
theorem xQ{t:TypeId}{x i:AV}{cx ci:Value}{v:AV}(h:Ut P t x i=some v)(hx:VR w S ρ x cx)(hi:VR w S ρ i ci):
 ∃cv,(Instr.indexAt t cx ci).run P w=.ok cv w∧VR w S ρ v cv:=by
 unfold Ut at h
 split at h
 ·rename_i e st b r len k n hu
  split at h
  ·rename_i hc
   obtain⟨hsz,h0,hlt⟩:=hc
   simp at h;subst h
   cases hi
   cases hx with
   | @slr _ _ _ _ cb co _ sz cap a hρ hle ha=>
     rcases ha with ha|⟨rfl,ha⟩
     ·omega
     ·refine⟨.pointer (some ⟨cb,co+r*st+n.toNat*st,none⟩),?_,?_⟩
      ·simp[Instr.indexAt,asIntOf,run_underlying hu,h0,hlt,Eb hsz,Ij]
      ·have:co+r*st+n.toNat*st=co+(r+n.toNat)*st+0:=by rw[acG];omega
       rw[this];exact .ptr hρ
   | @slrD _ _ _ _ _ c a hρ hle=>
     exact⟨.pointer (some (a.add (n.toNat*st))),by simp[Instr.indexAt,asIntOf,run_underlying hu,h0,hlt,Eb hsz],.ptrD hρ⟩
  ·simp at h
 ·rename_i e st fl rows k n hu
  split at h
  ·rename_i hc
   obtain⟨hsz,h0⟩:=hc
   obtain⟨row,hrow,rfl⟩:=acZ.1 h
   have hlt:n.toNat<rows.length:=(adD.1 hrow).1
   have hlt':n<rows.length:=by omega
   cases hi
   cases hx with
   | @imm _ _ _ _ a cap f hs hle hst hfl hcl hc hv=>
     rcases hs with rfl|⟨hs,hsp⟩
     ·simp at hrow
     obtain⟨ab,ao,as⟩:=a
     simp at hsp;subst hsp
     refine⟨.pointer (some ⟨ab,ao+n.toNat*st,none⟩),?_,?_⟩
     ·simp[Instr.indexAt,asIntOf,run_underlying hu,h0,hlt',Eb hsz,Ij]
     ·exact .iptr (f n.toNat) hs (fun j x hx=>hc _ _ j x hrow hx) (fun ρ' j x hx=>hv ρ' _ _ j x hrow hx)
  ·simp at h
 ·rename_i len e b r o k n hu
  obtain⟨m,hm,h⟩:=acE.1 h
  split at h
  ·rename_i hc
   obtain⟨h0,hlt,hm0⟩:=hc
   simp at h;subst h
   cases hi
   have key:∀a:Addr,(Instr.indexAt t (.pointer (some a)) (.int k n)).run P w=.ok (.pointer (some (a.add (n.toNat*m)))) w:=fun a=>by
    simp[Instr.indexAt,asIntOf,run_underlying hu,h0,hlt,Eb hm,Instr.sureAddr]
   cases hx with
   |ptr hρ=>exact⟨_,key _,by rw[Ij,an5];exact .ptr hρ⟩
   |ptrD hρ=>exact⟨_,key _,.ptrD hρ⟩
  ·simp at h
 ·rename_i len e cs k n hu
  obtain⟨m,hm,h⟩:=acE.1 h
  split at h
  ·rename_i hc
   obtain⟨h0,hlt,hm0⟩:=hc
   simp at h;subst h
   cases hi
   have key:∀a:Addr,(Instr.indexAt t (.pointer (some a)) (.int k n)).run P w=.ok (.pointer (some (a.add (n.toNat*m)))) w:=fun a=>by
    simp[Instr.indexAt,asIntOf,run_underlying hu,h0,hlt,Eb hm,Instr.sureAddr]
   cases hx with
   |iptr g hs hc hv=>
    refine⟨_,key _,?_⟩
    rw[Ij]
    exact .iptr (fun i=>g (n.toNat*m+i)) hs (fun i x hx=>by rw[ahZ]at hx;rw[an5];exact hc _ x hx)
     (fun ρ' i x hx=>by rw[ahZ]at hx;exact hv ρ' _ x hx)
  ·simp at h
 ·simp at h
theorem ajH{t:TypeId}{x i:AV}{cx ci:Value}{v:AV}(h:Zm P t x i=some v)(hx:VR w S ρ x cx)(hi:VR w S ρ i ci):
 ∃cv,(Instr.index t cx ci).run P w=.ok cv w∧VR w S ρ v cv:=by
 unfold Zm at h
 split at h
 ·rename_i s k n hu
  split at h
  ·rename_i h0
   obtain⟨b,hb,rfl⟩:=acZ.1 h
   cases hi
   cases hx with
   |str s=>
    have hb':s[n.toNat]?=some b:=by
     have h1:s.data[n.toNat]?=some b:=by simpa using hb
     have h2:n.toNat<s.data.size:=(ah3.1 h1).1
     have h3:=(ah3.1 h1).2
     have h4:n.toNat<s.size:=h2
     rw[getElem?_pos s n.toNat h4]
     exact congrArg some h3
    refine⟨.int .u8 b.toNat,?_,.int _ _⟩
    simp[Instr.index,asIntOf,run_underlying hu,h0,hb']
  ·simp at h
 ·rename_i len e cs k n hu
  simp only[acE]at h
  obtain⟨isA,hA,m,hm,h⟩:=h
  split at h
  ·rename_i hc
   cases hi
   cases hx with
   | @agg _ _ vs hl hv=>
     obtain⟨cv,h1,h2⟩:=Rk (P:=P) (off:=n.toNat*m) (v:=v) hA hl hv (by cases isA<;>simpa [hm]using h)
     exact⟨cv,by simp[Instr.index,asIntOf,run_underlying hu,hc,Eb hm,h1],h2⟩
  ·simp at h
 ·simp at h
theorem aqW{t:TypeId}{ts:Array TypeId}(ht:ts[0]?=some t){x:AV}{cx:Value}{ty:TypeId}{v:AV}(h:agW P t x=some v)(hx:VR w S ρ x cx):
 ∃cv,(Builtin.len_ ts ty #[cx]).run P w=.ok cv w∧VR w S ρ v cv:=by
 unfold agW at h
 split at h
 ·rename_i s hu;simp at h;subst h
  cases hx with
  |str s=>exact⟨.int .i64 s.size,by simp[Builtin.len_,ht,run_underlying hu,goInt],by simpa using VR.int _ _⟩
 ·rename_i hu;simp at h;subst h
  cases hx;exact⟨.int .i64 0,by simp[Builtin.len_,ht,run_underlying hu,goInt],.int _ _⟩
 ·rename_i hu;simp at h;subst h
  cases hx;exact⟨_,by simp[Builtin.len_,ht,run_underlying hu,goInt],.int _ _⟩
 ·rename_i hu;simp at h;subst h
  cases hx
  ·exact⟨_,by simp[Builtin.len_,ht,run_underlying hu,goInt],.int _ _⟩
  ·exact⟨_,by simp[Builtin.len_,ht,run_underlying hu,goInt],.int _ _⟩
 ·rename_i hu;simp at h;subst h
  exact⟨_,by simp[Builtin.len_,ht,run_underlying hu,goInt],.int _ _⟩
 ·simp at h
end
section
variable {P:Program} {w:World} {S:Nat→Prop} {ρ:Ba}
def OR(w:World)(S:Nat→Prop)(ρ:Ba):Option AV→Option Value→Prop
 |none,none=>True
 |some x,some v=>VR w S ρ x v
 |_,_=>False
theorem wU{y:Nat}{x:AV}{cx:Value}{d n:Nat}(h:Qz y (some x) d=some n)(hx:VR w S ρ x cx)(code:BoundsCode)(y':Nat)(hy:y≤y'):
 n≤y∧(Instr.sliceBound cx y' code).run P w=.ok n w:=by
 cases x<;>simp[Qz]at h
 cases hx
 rename_i k i
 obtain⟨⟨h0,h1⟩,rfl⟩:=h
 refine⟨by omega,?_⟩
 have:i≤(y':Int):=by omega
 simp[Instr.sliceBound,asIntOf,h0,this]
theorem aG{isS:Bool}{len cap:Nat}(hlc:len≤cap){lo hi:Option AV}{clo chi:Option Value}(hlo:OR w S ρ lo clo)(hhi:OR w S ρ hi chi){l h:Nat}
 (eh:Qz len hi len=some h) (el:Qz h lo 0=some l):l≤h∧h≤len∧(Instr.sliceBounds isS len cap clo chi none).run P w=.ok (l,h,cap) w:=by
 have hh:h≤len∧(match chi with
  |some v=>Instr.sliceBound v cap (if isS then .sliceAcap else .sliceAlen)
  |none=>pure len:Sem Nat).run P w=.ok h w:=by
  cases hi with
  |none=>cases chi with
   |none=>simp[Qz]at eh;subst eh;exact⟨aiK _,by simp⟩
   |some v=>exact hhi.elim
  |some x=>cases chi with
   |none=>exact hhi.elim
   |some v=>obtain⟨h1,h2⟩:=wU (P:=P) eh hhi (if isS then .sliceAcap else .sliceAlen) cap hlc;exact⟨h1,h2⟩
 have hl:l≤h∧(match clo with
  |some v=>Instr.sliceBound v h .sliceB
  |none=>pure 0:Sem Nat).run P w=.ok l w:=by
  cases lo with
  |none=>cases clo with
   |none=>simp[Qz]at el;subst el;exact⟨Nat.zero_le _,by simp⟩
   |some v=>exact hlo.elim
  |some x=>cases clo with
   |none=>exact hlo.elim
   |some v=>exact wU (P:=P) el hlo .sliceB h (aiK _)
 refine⟨hl.1,hh.1,?_⟩
 have e1:=hh.2
 have e2:=hl.2
 cases chi<;>cases clo<;>simp_all[Instr.sliceBounds]
theorem ajE{t:TypeId}{x:AV}{cx:Value}{lo hi:Option AV}{clo chi:Option Value}{v:AV}(h:tA P t x lo hi=some v)(hx:VR w S ρ x cx)
 (hlo:OR w S ρ lo clo) (hhi:OR w S ρ hi chi):∃cv,(Instr.sliceAt t cx clo chi none).run P w=.ok cv w∧VR w S ρ v cv:=by
 unfold tA at h
 split at h
 ·rename_i s hu
  simp only[acE,acZ]at h
  obtain⟨h',eh,l,el,rfl⟩:=h
  cases hx with
  |str s=>
   obtain⟨h1,h2,h3⟩:=aG (P:=P) (isS:=false) (aiK s.size) hlo hhi (by simpa using eh) el
   refine⟨.string (s.extract l h'),by simp[Instr.sliceAt,Instr.slice,run_underlying hu,h3],?_⟩
   have:(s.data.toList.drop l).take (h'-l)=(s.extract l h').data.toList:=by
    rw[ByteArray.data_extract]
    simp[Array.toList_extract,List.extract_eq_take_drop]
   rw[this];exact .str _
 ·rename_i e hu
  simp only[acE,acZ]at h
  obtain⟨n,hn,h',eh,l,el,rfl⟩:=h
  cases hx
  obtain⟨h1,h2,h3⟩:=aG (P:=P) (isS:=true) (aiK 0) hlo hhi eh el
  obtain rfl:h'=0:=by omega
  obtain rfl:l=0:=by omega
  exact⟨.slice none 0 0,by simp[Instr.sliceAt,Instr.slice,run_underlying hu,h3,Eb hn],.nils⟩
 ·rename_i e st fl rows hu
  simp only[acE]at h
  obtain⟨n,hn,h⟩:=h
  split at h
  ·rename_i hst;subst hst
   simp only[acE,acZ]at h
   obtain⟨h',eh,l,el,rfl⟩:=h
   cases hx with
   | @imm _ _ _ _ a cap f hs hle hw hfl hcl hc hv=>
     obtain⟨h1,h2,h3⟩:=aG (P:=P) (isS:=true) hle hlo hhi eh el
     have hlen:((rows.drop l).take (h'-l)).length=h'-l:=by simp;omega
     have hmem:∀r,r∈(rows.drop l).take (h'-l)→r∈rows:=fun r hr=>amP (al7 hr)
     refine⟨.slice (some (if cap=l then a else a.add (l*n))) (h'-l) (cap-l),?_,?_⟩
     ·simp[Instr.sliceAt,Instr.slice,run_underlying hu,h3,Eb hn]
      split<;>rfl
     ·suffices hh:VR w S ρ (.imm n fl ((rows.drop l).take (h'-l))) (.slice (some (if cap=l then a else a.add (l*n))) ((rows.drop l).take (h'-l)).length (cap-l)) by rw[hlen]at hh;exact hh
      have hsub:∀i r,((rows.drop l).take (h'-l))[i]?=some r→rows[l+i]?=some r:=fun i r hr=>by
       rw[al2]at hr
       split at hr
       ·rwa[ahZ]at hr
       ·simp at hr
      by_cases hcpl:cap=l
      ·have hemp:(rows.drop l).take (h'-l)=[]:=by apply aoC;omega
       rw[hemp]at *
       simp only[hcpl,if_true]
       exact .imm (fun _ _=>.nilFunc) (.inl rfl) (by simp) (by simp) (by simp) (by simp) (by simp) (by simp)
      ·rw[if_neg hcpl]
       rcases hs with hs|⟨hs,hsp⟩
       ·subst hs
        have hemp:(([]:List (List AV)).drop l).take (h'-l)=[]:=by simp
        rw[hemp]
        exact .imm (fun _ _=>.nilFunc) (.inl rfl) (by simp) (by simp) (by simp) (by simp) (by simp) (by simp)
       ·obtain⟨ab,ao,as⟩:=a
        simp at hsp;subst hsp
        rw[Ij]
        refine VR.imm (a:=⟨ab,ao+l*n,none⟩) (cap:=cap-l) (fun i j=>f (l+i) j) (.inr ⟨hs,rfl⟩) (by omega) (fun r hr=>hw r (hmem r hr)) (fun e r hr=>hfl e r (hmem r hr)) (fun r hr=>hcl r (hmem r hr)) (fun i r j x hr hx=>?_) (fun ρ' i r j x hr hx=>hv ρ' _ r j x (hsub i r hr) hx)
        have:=hc (l+i) r j x (hsub i r hr) hx
        simp only at this ⊢
        rw[show ao+l*n+i*n+j=ao+(l+i)*n+j by rw[acG];omega]
        exact this
  ·simp at h
 ·rename_i e st b r len hu
  simp only[acE]at h
  obtain⟨n,hn,h⟩:=h
  split at h
  ·rename_i hst;subst hst
   simp only[acE,acZ]at h
   obtain⟨h',eh,l,el,rfl⟩:=h
   have key:∀(a:Addr) (cap:Nat),len≤cap→l≤h'∧h'≤len∧(Instr.sliceAt t (.slice (some a) len cap) clo chi none).run P w=.ok (.slice (some (if cap=l then a else a.add (l*n))) (h'-l) (cap-l)) w:=fun a cap hle=>by
    obtain⟨h1,h2,h3⟩:=aG (P:=P) (isS:=true) hle hlo hhi eh el
    refine⟨h1,h2,?_⟩
    simp[Instr.sliceAt,Instr.slice,run_underlying hu,h3,Eb hn]
    split<;>rfl
   cases hx with
   | @slr _ _ _ _ cb co _ sz cap a hρ hle ha=>
     obtain⟨h1,h2,h3⟩:=key a cap hle
     refine⟨_,h3,.slr hρ (by omega) ?_⟩
     by_cases hcpl:cap=l
     ·exact .inl (by omega)
     ·right
      rw[if_neg hcpl]
      rcases ha with ha|⟨rfl,ha⟩
      ·omega
      ·refine⟨by rw[Ij,acG];simp;omega,?_⟩
       have:r+l+(cap-l)=r+cap:=by omega
       rw[this];exact ha
   | @slrD _ _ _ _ _ c a hρ hle=>
     obtain⟨h1,h2,h3⟩:=key a c hle
     exact⟨_,h3,.slrD hρ (by omega)⟩
  ·simp at h
 ·simp at h
theorem atM{op:UnOp}{x v:AV}{cx:Value}(h:aUn op x=some v)(hx:VR w S ρ x cx):∃cv,(Op.unary op cx).run P w=.ok cv w∧VR w S ρ v cv:=by
 unfold aUn at h
 split at h<;>simp at h<;>subst h<;>cases hx
 ·exact⟨_,by simp[Op.unary,Op.intArith],.int _ _⟩
 ·exact⟨_,by simp[Op.unary],.bool _⟩
theorem amI{s d:TypeId}{x v:AV}{cx:Value}(h:auE P s d x=some v)(hx:VR w S ρ x cx):∃cv,(convert s d cx).run P w=.ok cv w∧VR w S ρ v cv:=by
 unfold auE at h
 split at h<;>simp at h<;>subst h
 ·rename_i h1 h2;cases hx
  exact⟨_,by simp[convert,run_underlying h1,run_underlying h2,Conv.intToInt],.int _ _⟩
 ·rename_i h1 h2;cases hx
  exact⟨_,by simp[convert,run_underlying h1,run_underlying h2],.str _⟩
theorem oO{x y v:AV}{cx cy:Value}(h:zQ x y=some v)(hx:VR w S ρ x cx)(hy:VR w S ρ y cy):∃cv,(Builtin.min2 cx cy).run P w=.ok cv w∧VR w S ρ v cv:=by
 unfold zQ at h
 split at h<;>simp at h
 subst h;cases hx;cases hy
 exact⟨_,by simp[Builtin.min2],.int _ _⟩
theorem pQ{x y v:AV}{cx cy:Value}(h:aiS x y=some v)(hx:VR w S ρ x cx)(hy:VR w S ρ y cy):∃cv,(Builtin.max2 cx cy).run P w=.ok cv w∧VR w S ρ v cv:=by
 unfold aiS at h
 split at h<;>simp at h
 subst h;cases hx;cases hy
 exact⟨_,by simp[Builtin.max2],.int _ _⟩
theorem vI(s:ByteArray):s.toList=s.data.toList:=by
 rw[ByteArray.toList_eq]
theorem ap8{op:BinOp}{k:IntKind}{a b:Int}{v:AV}(h:Lq op k a b=some v)(hs:op≠.shl)(hs':op≠.shr){t:TypeId}:∃cv,(binOp op t (.int k a) (.int k b)).run P w=.ok cv w∧VR w S ρ v cv:=by
 cases op<;>simp[Lq]at h<;>first
  |exact(hs rfl).elim
  |exact(hs' rfl).elim
  |(subst h;exact⟨_,by simp[binOp,Op.intArith,Op.intCmp,Op.intBits],VR.int _ _⟩)
  |(subst h;exact⟨_,by simp[binOp,Op.intArith,Op.intCmp,Op.intBits],VR.bool _⟩)
  |(obtain⟨h0,rfl⟩:=h;exact⟨_,by simp[binOp,Op.intDiv,h0],VR.int _ _⟩)
end
section
variable {P:Program} {w:World} {S:Nat→Prop} {ρ:Ba}
theorem ajN{t:TypeId}{fs:Array Field}(h:P.underlying t=some (.struct fs)):P.fieldsOf t=fs:=by
 simp[Program.fieldsOf,h]
theorem eH:∀(d:Nat) {t:TypeId} {x y:AV} {cx cy:Value} {r:Bool},iT P d t x y=some r→VR w S ρ x cx→VR w S ρ y cy→∀D,d≤D→(Op.equalIn D t cx cy).run P w=.ok r w
 |0,_,_,_,_,_,_,h,_,_=>by simp[iT]at h
 |d+1,t,x,y,cx,cy,r,h,hx,hy=>by
  intro D hD
  obtain⟨D,rfl⟩:∃D',D=D'+1:=⟨D-1,by omega⟩
  unfold iT at h
  split at h
  ·rename_i hu;simp at h;subst h;cases hx;cases hy;simp[Op.equalIn,run_underlying hu]
  ·rename_i hu;simp at h;obtain⟨rfl,rfl⟩:=h;cases hx;cases hy;simp[Op.equalIn,run_underlying hu]
  ·rename_i hu;simp at h;subst h;cases hx;cases hy
   rw[run_equalIn_string _ _ _ _ _ hu];simp[vI]
  ·rename_i fs xs ys hu
   split at h
   ·simp at h
   ·rename_i hst
    have hst':P.stoodInHeld t=false:=by simpa using hst
    cases hx with
    | @agg _ _ vx hlx hvx=>
    cases hy with
    | @agg _ _ vy hly hvy=>
    have hfo:=ajN hu
    rw[run_equalIn_agg w D t vx vy (by rw[hfo];exact hu) hst',hfo]
    have key:∀(l:List Field) (r:Bool),iT.eqL P (iT P d) xs ys l=some r→(Op.eqFields D vx vy l).run P w=.ok r w:=by
     intro l
     induction l with
     |nil=>intro r h;simp[iT.eqL]at h;subst h;simp[Op.eqFields]
     |cons f l ih=>
      intro r h
      unfold iT.eqL at h
      split at h
      ·rename_i hn;simp[Op.eqFields,hn,ih r h]
      ·rename_i hn
       simp only[acE]at h
       obtain⟨a,ha,b,hb,q,hq,h⟩:=h
       unfold iT.partOf at ha hb
       simp only[acE]at ha hb
       obtain⟨isA,hA,ha⟩:=ha
       obtain⟨isA',hA',hb⟩:=hb
       obtain⟨ca,h1,h2⟩:=Rk hA hlx hvx ha
       obtain⟨cb,h3,h4⟩:=Rk hA' hly hvy hb
       have h5:=eH d hq h2 h4 D (by omega)
       cases q with
       |true=>simp at h;simp[Op.eqFields,hn,h1,h3,h5,ih r h]
       |false=>simp at h;subst h;simp[Op.eqFields,hn,h1,h3,h5]
    exact key _ _ h
  ·rename_i n e xs ys hu
   obtain⟨sz,hsz,h⟩:=acE.1 h
   obtain⟨ie,hie,rfl⟩:=acZ.1 hsz
   have hce:P.cellsOf e=ie.size:=by simp[Program.cellsOf,hie]
   cases hx with
   | @agg _ _ vx hlx hvx=>
   cases hy with
   | @agg _ _ vy hly hvy=>
   rw[run_equalIn_array w D vx vy hu hie,hce]
   have key:∀(l:List Nat) (r:Bool),iT.eqA P (iT P d e) e ie.size xs ys l=some r→(Op.eqItems D e ie.size vx vy l).run P w=.ok r w:=by
    intro l
    induction l with
    |nil=>intro r h;simp[iT.eqA]at h;subst h;simp[Op.eqItems]
    |cons i l ih=>
     intro r h
     unfold iT.eqA at h
     simp only[acE]at h
     obtain⟨a,ha,b,hb,q,hq,h⟩:=h
     unfold iT.partOf at ha hb
     simp only[acE]at ha hb
     obtain⟨isA,hA,ha⟩:=ha
     obtain⟨isA',hA',hb⟩:=hb
     obtain⟨ca,h1,h2⟩:=Rk hA hlx hvx ha
     obtain⟨cb,h3,h4⟩:=Rk hA' hly hvy hb
     have h5:=eH d hq h2 h4 D (by omega)
     cases q with
     |true=>simp at h;simp[Op.eqItems,h1,h3,h5,ih r h]
     |false=>simp at h;subst h;simp[Op.eqItems,h1,h3,h5]
   exact key _ _ h
  all_goals first
   |(simp at h;done)
   |(rename_i hu;simp at h;subst h;cases hx<;>cases hy<;>simp[Op.equalIn,run_underlying hu])
theorem ap0{op:BinOp}{a b:ByteArray}{v:AV}(h:ahY op a.data.toList b.data.toList=some v){t:TypeId}:∃cv,(binOp op t (.string a) (.string b)).run P w=.ok cv w∧VR w S ρ v cv:=by
 cases op<;>simp[ahY]at h<;>first
  |(subst h;exact⟨_,by simp[binOp,Op.stringOp,vI],VR.bool _⟩)
  |skip
 obtain⟨hl,rfl⟩:=h
 refine⟨.string (a++b),?_,?_⟩
 ·have:¬((a.size+b.size:Nat):Int)>IntKind.i64.max:=by
   have:IntKind.i64.max=9223372036854775807:=by decide
   rw[this];omega
  simp[binOp,Op.stringOp]
  have h2:IntKind.i64.max=9223372036854775807:=by decide
  omega
 ·have:a.data.toList++b.data.toList=(a++b).data.toList:=by simp
  rw[this];exact .str _
theorem alM{op:BinOp}{t:TypeId}{x y:Operand}{a b:Value}(h1:∀xs ys,a=.agg xs→b≠.agg ys)(h2:a≠.nilIface):(eqGuard op t x y a b).run P w=.ok () w:=by
 cases a with
 |nilIface=>exact(h2 rfl).elim
 |agg xs=>cases b with
  |agg ys=>exact(h1 _ _ rfl rfl).elim
  |_=>cases op<;>simp[eqGuard]
 |_=>cases op<;>simp[eqGuard]
theorem af6{t:TypeId}{x y:AV}{cx cy:Value}{r:Bool}(hr:iT P 12 t x y=some r)(hx:VR w S ρ x cx)(hy:VR w S ρ y cy)
 (ni:∀k a k' b,x=.int k a→y≠.int k' b) (ns:∀a b,x=.str a→y≠.str b) (na:∀a b,x=.agg a→y≠.agg b):
 (∀xs ys,cx=.agg xs→cy≠.agg ys)∧cx≠.nilIface∧(binOp .eql t cx cy).run P w=.ok (.bool r) w∧(binOp .neq t cx cy).run P w=.ok (.bool !r) w:=by
 have he:=eH 12 hr hx hy 10000 (by omega)
 unfold iT at hr
 split at hr
 all_goals first
  |exact(ni _ _ _ _ rfl rfl).elim
  |exact(ns _ _ rfl rfl).elim
  |exact(na _ _ rfl rfl).elim
  |(simp at hr;done)
  |(cases hx<;>cases hy<;>exact⟨by simp,by simp,by simp[binOp,Op.equal,Op.maxDepth,he],by simp[binOp,Op.equal,Op.maxDepth,he]⟩)
theorem aqB{op:BinOp}{t:TypeId}{x y v:AV}{cx cy:Value}{ox oy:Operand}(h:Pn P op t x y=some v)(hx:VR w S ρ x cx)(hy:VR w S ρ y cy):
 ∃cv,(do eqGuard op t ox oy cx cy;binOp op t cx cy:Sem Value).run P w=.ok cv w∧VR w S ρ v cv:=by
 have plain:∀(cv:Value),(∀xs ys,cx=.agg xs→cy≠.agg ys)→cx≠.nilIface→(binOp op t cx cy).run P w=.ok cv w→
  (do eqGuard op t ox oy cx cy;binOp op t cx cy:Sem Value).run P w=.ok cv w:=fun cv h1 h2 h3=>by
  simp[alM h1 h2,h3]
 unfold Pn at h
 split at h
 ·split at h
  ·simp at h
  ·rename_i hb;simp at h;subst h;cases hx;cases hy
   exact⟨_,plain _ (by simp) (by simp) (by simp[binOp,Op.shift,hb]),.int _ _⟩
 ·split at h
  ·simp at h
  ·rename_i hb;simp at h;subst h;cases hx;cases hy
   exact⟨_,plain _ (by simp) (by simp) (by simp[binOp,Op.shift,hb]),.int _ _⟩
 ·rename_i hs hs'
  split at h
  ·rename_i hk;subst hk
   cases hx;cases hy
   obtain⟨cv,h1,h2⟩:=ap8 (P:=P) (w:=w) (S:=S) (ρ:=ρ) (t:=t) h (fun e=>hs e) (fun e=>hs' e)
   exact⟨cv,plain cv (by simp) (by simp) h1,h2⟩
  ·simp at h
 ·cases hx;cases hy
  obtain⟨cv,h1,h2⟩:=ap0 (P:=P) (w:=w) (S:=S) (ρ:=ρ) (t:=t) h
  exact⟨cv,plain cv (by simp) (by simp) h1,h2⟩
 ·split at h
  ·simp at h
  ·rename_i hg
   obtain⟨r,hr,rfl⟩:=acZ.1 h
   have he:=eH 12 hr hx hy 10000 (by omega)
   cases hx;cases hy
   refine⟨.bool r,?_,.bool _⟩
   simp[run_eqGuard_agg _ _ _ _ _ _ _ (by simpa using hg),run_eql_struct,he]
 ·split at h
  ·simp at h
  ·rename_i hg
   obtain⟨r,hr,rfl⟩:=acZ.1 h
   have he:=eH 12 hr hx hy 10000 (by omega)
   cases hx;cases hy
   refine⟨.bool !r,?_,.bool _⟩
   simp[run_eqGuard_agg _ _ _ _ _ _ _ (by simpa using hg),run_neq_struct,he]
 ·rename_i n1 n2 n3
  obtain⟨r,hr,rfl⟩:=acZ.1 h
  obtain⟨h1,h2,h3,_⟩:=af6 hr hx hy (fun _ _ _ _ e e'=>n1 _ _ _ _ e e') (fun _ _ e e'=>n2 _ _ e e') (fun _ _ e e'=>n3 _ _ e e')
  exact⟨.bool r,plain _ h1 h2 h3,.bool _⟩
 ·rename_i n1 n2 n3
  obtain⟨r,hr,rfl⟩:=acZ.1 h
  obtain⟨h1,h2,_,h3⟩:=af6 hr hx hy (fun _ _ _ _ e e'=>n1 _ _ _ _ e e') (fun _ _ e e'=>n2 _ _ e e') (fun _ _ e e'=>n3 _ _ e e')
  exact⟨.bool !r,plain _ h1 h2 h3,.bool _⟩
 ·simp at h
end
section
variable {P:Program} {w:World} {S:Nat→Prop} {ρ:Ba}
theorem Pj(cs vs:List AV)(o:Nat):(Ff cs o vs).length=cs.length:=by
 simp[Ff];omega
theorem Ph(cs vs:List AV)(o j:Nat):(Ff cs o vs)[j]?=if o≤j∧j<o+vs.length∧j<cs.length then vs[j-o]? else cs[j]?:=by
 by_cases hL:j<cs.length
 ·unfold Ff
  rw[asB]
  by_cases h1:j<o
  ·have:j<(cs.take o).length:=by simp;omega
   rw[if_pos this,if_neg (by omega),al2,if_pos h1]
  ·have ht:(cs.take o).length=o:=by simp;omega
   rw[if_neg (by omega),ht,asB]
   by_cases h2:j<o+vs.length
   ·have:j-o<(vs.take (cs.length-o)).length:=by simp;omega
    rw[if_pos this,if_pos (by omega),al2,if_pos (by omega)]
   ·have h3:(vs.take (cs.length-o)).length=vs.length:=by simp;omega
    rw[if_neg (by omega),if_neg (by omega),h3,ahZ]
    congr 1;omega
 ·rw[if_neg (by omega),anF (by rw[Pj];omega),anF (by omega)]
theorem iO{cs vs:List AV}{o:Nat}(_:o+vs.length≤cs.length):(Ff cs o vs).length=cs.length:=Pj cs vs o
theorem gK{cs vs:List AV}{o:Nat}(h:o+vs.length≤cs.length)(j:Nat):(Ff cs o vs)[j]?=if o≤j∧j<o+vs.length then vs[j-o]? else cs[j]?:=by
 rw[Ph]
 by_cases h1:o≤j∧j<o+vs.length
 ·rw[if_pos h1,if_pos (by omega)]
 ·rw[if_neg h1,if_neg (by omega)]
theorem ajI{cs xs:List AV}{cv:Array Value}{vs:List Value}{o:Nat}(hc:LR w S ρ cs cv.toList)(hv:LR w S ρ xs vs)(h:o+xs.length≤cs.length):
 LR w S ρ (Ff cs o xs) (Uz cv o vs).toList:=by
 have hcl:cs.length=cv.size:=by simpa using hc.1
 have hvl:=hv.1
 refine⟨by rw[iO h];simp[Vg,hcl],fun i x v hx hv'=>?_⟩
 rw[gK h]at hx
 rw[al3,gU _ _ _ _ (by omega)]at hv'
 by_cases h1:o≤i∧i<o+xs.length
 ·rw[if_pos h1]at hx;rw[if_pos (by omega)]at hv';exact hv.2 _ x v hx hv'
 ·rw[if_neg h1]at hx;rw[if_neg (by omega)]at hv';exact hc.2 _ x v hx (by rw[al3];exact hv')
theorem qD:∀(vs:List Value) (cs:Array Value) (off j:Nat),(vs.zipIdx j).foldl (fun cs (c,j)=>cs.setIfInBounds (off+j) c) cs=Uz cs (off+j) vs
 | [],_,_,_=>rfl
 |v::vs,cs,off,j=>by
  rw[List.zipIdx_cons,List.foldl_cons,qD vs];rfl
theorem fM{Nq:Nat→Option (Nat × Nat)}:∀{parts:List (Nat × AV)} {cparts:List (Nat × Value)} {cs r:List AV} {ccs:Array Value},Vj Nq cs parts=some r→LR w S ρ cs ccs.toList→
 parts.length=cparts.length→(∀(i:Nat) p q,parts[i]?=some p→cparts[i]?=some q→p.1=q.1∧VR w S ρ p.2 q.2)→∃cr,Instr.fill Nq ccs cparts=some cr∧LR w S ρ r cr.toList
 | [],cparts,cs,r,ccs,h,hl,hlen,_=>by
   simp[Vj]at h;subst h
   cases cparts with
   |nil=>exact⟨ccs,rfl,hl⟩
   |cons _ _=>simp at hlen
 |(i,v)::parts,cparts,cs,r,ccs,h,hl,hlen,hp=>by
  cases cparts with
  |nil=>simp at hlen
  |cons q cparts=>
   obtain⟨i',cv⟩:=q
   obtain⟨rfl,hv⟩:=hp 0 _ _ rfl rfl
   simp only at hv
   unfold Vj at h
   split at h
   ·simp at h
   ·rename_i off size hpl
    split at h
    ·rename_i hc
     have hcells:=hv.cells
     have hsz:cv.cells.size=size:=by have:=hcells.1;simp at this;omega
     have hcl:cs.length=ccs.size:=by simpa using hl.1
     have hl':=ajI hl hcells (o:=off) (by omega)
     obtain⟨cr,h1,h2⟩:=fM (cparts:=cparts) h hl' (by simpa using hlen) (fun j p q hp1 hq1=>hp (j+1) p q (by simpa using hp1) (by simpa using hq1))
     refine⟨cr,?_,h2⟩
     unfold Instr.fill
     simp only[hpl]
     rw[if_neg (by simp;omega)]
     rw[←h1]
     congr 1
     rw[←Array.foldl_toList,Array.toList_zipIdx]
     exact qD cv.cells.toList ccs off 0
    ·simp at h
theorem jE{tmps:List AV}{a:Act}(T:TR w S ρ tmps a.tmps):∀{ps:List (Nat × Operand)} {vs:List AV},Dt tmps (ps.map (·.2))=some vs→
 (bK ps vs).length=(ps.map fun p=>(p.1,a.eval p.2)).length∧∀(i:Nat) p q,(bK ps vs)[i]?=some p→(ps.map fun p=>(p.1,a.eval p.2))[i]?=some q→p.1=q.1∧VR w S ρ p.2 q.2
 | [],vs,h=>by simp[Dt]at h;subst h;simp[bK]
 |(i,x)::ps,vs,h=>by
  simp only[as8,Dt,acE,acZ]at h
  obtain⟨v,hv,l,hl,rfl⟩:=h
  obtain⟨h1,h2⟩:=jE T hl
  refine⟨by simp only[bK,as8,awV,h1],fun j p q hp hq=>?_⟩
  cases j with
  |zero=>simp[bK]at hp hq;subst hp hq;exact⟨rfl,Az T hv⟩
  |succ j=>simp only[bK,as8,avF]at hp hq;exact h2 j p q hp hq
theorem alZ(fs:List Field)(h:∀f∈fs,∃i,P.info? f.type=some i):
 (fs.mapM fun f=>do pure (f.offset,←sizeOf f.type):Sem (List (Nat × Nat))).run P w=.ok (Wb P fs) w:=by
 induction fs with
 |nil=>simp[Wb]
 |cons f fs ih=>
  obtain⟨i,hi⟩:=h f (al6 ..)
  have ih':=ih (fun f hf=>h f (ap9 _ hf))
  have hsz:bG P f.type=some i.size:=by simp[bG,hi]
  rw[List.mapM_cons]
  simp only[Sem.run_bind,Sem.run_pure,Eb hsz,Result.andThen_ok,ih']
  simp[Wb,Program.cellsOf,hi]
theorem alS{t:TypeId}{parts:List (Nat × AV)}{cparts:Array (Nat × Value)}{v:AV}(h:Zr P t parts=some v)
 (hlen:parts.length=cparts.toList.length) (hp:∀(i:Nat) p q,parts[i]?=some p→cparts.toList[i]?=some q→p.1=q.1∧VR w S ρ p.2 q.2):
 ∃cv,(Instr.build t cparts).run P w=.ok cv w∧VR w S ρ v cv:=by
 unfold Zr at h
 obtain⟨z,hz,h⟩:=acE.1 h
 obtain⟨i,cz,hi,hiz,hov,hrun⟩:=aZ hz
 have hzc:LR w S ρ (Am z) cz.cells.toList:=(Rw hov).cells
 split at h
 ·rename_i fs hu
  split at h
  ·rename_i hall
   obtain⟨r,hr,rfl⟩:=acZ.1 h
   obtain⟨cr,h1,h2⟩:=fM hr hzc hlen hp
   refine⟨.agg cr,?_,.agg (by simpa using h2.1) (fun i x v hx hv=>h2.2 i x v hx (by simpa using hv))⟩
   have hm:(fs.mapM fun f=>do pure (f.offset,←sizeOf f.type):Sem (Array (Nat × Nat))).run P w=.ok (Wb P fs.toList).toArray w:=by
    have:=alZ (P:=P) (w:=w) fs.toList (fun f hf=>by
     have:=aiC.1 hall f hf
     exact Option.isSome_iff_exists.1 this)
    rw[Array.mapM_eq_mapM_toList,Sem.run_map,this];rfl
   unfold Instr.build
   simp only[Sem.run_bind,hrun,Result.andThen_ok,run_underlying hu,hm]
   have h1':Instr.fill (fun i=>(Wb P fs.toList).toArray[i]?) cz.cells cparts.toList=some cr:=by simpa using h1
   simp only[h1',Sem.run_pure]
  ·simp at h
 ·rename_i n e hu
  obtain⟨s,hs,h⟩:=acE.1 h
  obtain⟨r,hr,rfl⟩:=acZ.1 h
  obtain⟨cr,h1,h2⟩:=fM hr hzc hlen hp
  exact⟨.agg cr,by simp[Instr.build,hrun,run_underlying hu,Eb hs,h1],.agg (by simpa using h2.1) (fun i x v hx hv=>h2.2 i x v hx (by simpa using hv))⟩
 ·simp at h
end
section
variable {P:Program} {w:World} {S:Nat→Prop} {ρ:Ba} {g:HF}
def rE(w:World)(b off:Nat)(vs:List Value):Prop:=∀(j:Nat) (v:Value),vs[j]?=some v→w.cell? ⟨b,off+j,none⟩=some v
theorem rE.drop{b off:Nat}{vs:List Value}(h:rE w b off vs)(n:Nat):rE w b (off+n) (vs.drop n):=fun j v hv=>by
 rw[ahZ]at hv;rw[an5];exact h _ v hv
theorem rE.take{b off:Nat}{vs:List Value}(h:rE w b off vs)(n:Nat):rE w b off (vs.take n):=fun j v hv=>by
 rw[al2]at hv
 split at hv
 ·exact h j v hv
 ·simp at hv
theorem agP(H:HR w S ρ g){b r:Nat}{cs:List AV}(h:oJ g b r=some cs){o:Nat}{cp:Value}(hp:VR w S ρ (.ptr b r o) cp):
 ∃(cb off:Nat) (vals:List Value),cp=.pointer (some ⟨cb,off+o,none⟩)∧LR w S ρ cs vals∧rE w cb off vals:=by
 cases hp with
 | @ptr _ _ _ _ cb co st sz hρ=>
   obtain⟨c,e,fz,fl,rows,h1,h2,h3,h4⟩:=H.at_ b cb co st sz hρ
   have hr:rows[r]?=some cs:=by
    rcases h4 with⟨⟨wr,h4⟩,_⟩|⟨h4,_⟩<;>simpa [oJ,h4]using h
   have hlen:=h3.wide cs (al4 hr)
   have hlt:r<rows.length:=(adD.1 hr).1
   have hin:co+r*st+st≤c.size:=by
    have h5:=h3.len
    have h6:(r+1)*st≤rows.length*st:=aiH _ hlt
    rw[acG]at h6;omega
   refine⟨cb,co+r*st,(c.toList.drop (co+r*st)).take st,rfl,⟨by simp;omega,fun i x v hx hv=>?_⟩,fun j v hv=>?_⟩
   ·obtain⟨v',h5,h6⟩:=h3.cell r cs i x hr hx
    rw[al2]at hv
    split at hv
    ·rw[ahZ,al3,h5]at hv;cases hv;exact h6
    ·simp at hv
   ·rw[al2]at hv
    split at hv
    ·rw[ahZ,al3]at hv;rw[pW h1];exact hv
    ·simp at hv
 |ptrD hρ=>simp[oJ,H.dead b hρ]at h
theorem Vf{b off:Nat}{vs:List Value}(h:rE w b off vs):(loadCells ⟨b,off,none⟩ vs.length).run P w=.ok vs.toArray w:=
 run_loadCells_list w ⟨b,off,none⟩ vs (fun j v hv=>by rw[Ij];exact h j v hv)
theorem ai3{t:TypeId}{isA:Bool}(hA:xF P t=some isA){n:Nat}(hn:bG P t=some n){b off:Nat}{vs:List Value}(h:rE w b off vs)(hl:if isA then vs.length=n else 0<vs.length):
 (loadVar t ⟨b,off,none⟩).run P w=.ok (if isA then .agg vs.toArray else vs.headD undef) w:=by
 cases isA with
 |true=>
  simp at hl;subst hl
  simp[loadVar,lM hA,Eb hn,Vf h]
 |false=>
  cases vs with
  |nil=>simp at hl
  |cons v vs=>
   have:=h 0 v rfl
   simp at this
   simp[loadVar,lM hA,run_load,this]
theorem LR.toAgg{cs:List AV}{vs:List Value}(h:LR w S ρ cs vs):VR w S ρ (.agg cs) (.agg vs.toArray):=.agg (by simp[h.1]) (fun i x v hx hv=>h.2 i x v hx (by simpa using hv))
theorem aaX(H:HR w S ρ g){t:TypeId}{p:AV}{cp:Value}{d:Ku}(h:Ze P g t p=some d)(hp:VR w S ρ p cp):
 ∃cv,(Instr.loadAt t cp).run P w=.ok cv w∧VR w S ρ d.v cv∧d.es=[]:=by
 unfold Ze at h
 simp only[acE]at h
 obtain⟨isA,hA,n,hn,h⟩:=h
 have fin:∀{b off:Nat} {cs:List AV} {vs:List Value},LR w S ρ cs vs→rE w b off vs→(if isA then cs.length=n else 0<cs.length)→cp=.pointer (some ⟨b,off,none⟩)→
  d.v=(if isA then .agg cs else cs.headD (.tup []))→d.es=[]→∃cv,(Instr.loadAt t cp).run P w=.ok cv w∧VR w S ρ d.v cv∧d.es=[]:=by
  intro b off cs vs hlr hl hlen hcp hv he
  have hl':=ai3 (P:=P) hA hn hl (by rw[←hlr.1];exact hlen)
  refine⟨_,by rw[hcp];simp[Instr.loadAt,Instr.sureAddr,hl'];rfl,?_,he⟩
  rw[hv]
  cases isA with
  |true=>exact hlr.toAgg
  |false=>
   cases cs with
   |nil=>simp at hlen
   |cons x cs=>obtain⟨v,vs',rfl,h1,_⟩:=hlr.cons_inv;exact h1
 split at h
 ·rename_i cs
  split at h
  ·rename_i hle
   simp at h;subst h
   cases hp with
   |iptr f hs hc hv=>
    have hlr:LR w S ρ cs ((aiI cs.length).map f):=⟨by simp,fun i x v hx hv'=>by
     have hi:i<cs.length:=(adD.1 hx).1
     simp[as9 hi]at hv';subst hv';exact hv ρ i x hx⟩
    have hl:rE w _ _ ((aiI cs.length).map f):=fun j v hv'=>by
     by_cases hj:j<cs.length
     ·simp[as9 hj]at hv';subst hv';exact hc j _ (acK hj)
     ·have:(aiI cs.length)[j]?=none:=by simp;omega
      simp[this]at hv'
    exact fin (hlr.take n) (hl.take n) (by simp;omega) rfl (by simp) rfl
  ·simp at h
 ·rename_i b r o
  obtain⟨cs,hr,h⟩:=acE.1 h
  split at h
  ·rename_i hle
   simp at h;subst h
   obtain⟨cb,off,vals,h1,h2,h3⟩:=agP H hr hp
   exact fin ((h2.drop o).take n) ((h3.drop o).take n) (by simp;omega) h1 (by simp) rfl
  ·simp at h
 ·rename_i c cs
  simp at h;subst h
  cases hp with
  |iptr f hs hc hv=>
   have hl:rE w _ _ [f 0]:=fun j v hv'=>by
    cases j with
    |zero=>simp at hv';subst hv';exact hc 0 c rfl
    |succ j=>simp at hv'
   exact fin (cs:=[c]) (LR.cons (hv ρ 0 c rfl) .nil) hl (by simp) rfl (by simp) rfl
 ·rename_i b r o
  obtain⟨cs,hr,h⟩:=acE.1 h
  obtain⟨x,hx,rfl⟩:=acZ.1 h
  obtain⟨cb,off,vals,h1,h2,h3⟩:=agP H hr hp
  have ho:o<cs.length:=(adD.1 hx).1
  refine fin (h2.drop o) (h3.drop o) (by simp;omega) h1 ?_ rfl
  simp[List.head?_drop,hx]
 ·simp at h
end
section
variable {P:Program} {w:World} {S:Nat→Prop} {ρ:Ba} {g:HF}
theorem agE{i r st j:Nat}(h:i≠r)(hj:j<st):i*st+j<r*st∨(r+1)*st≤i*st+j:=by
 rcases Nat.lt_or_gt_of_ne h with h|h
 ·left
  have:(i+1)*st≤r*st:=aiH _ h
  rw[acG]at this;omega
 ·right
  have:(r+1)*st≤i*st:=aiH _ h
  omega
theorem sF{cs xs:List AV}{o:Nat}{x:AV}(h:x∈Ff cs o xs):x∈cs∨x∈xs:=by
 simp only[Ff,al9]at h
 rcases h with h|h|h
 ·exact .inl (al7 h)
 ·exact .inr (al7 h)
 ·exact .inl (amP h)
theorem Ih.set{c:Array Value}{co st:Nat}{fl:Bool}{rows:List (List AV)}(k:Ih w S ρ c co st fl rows){r o:Nat}{cs xs:List AV}{vs:List Value}(hr:rows[r]?=some cs)
 (ho:o+xs.length≤cs.length) (hx:LR w S ρ xs vs) (hc:xs.all AV.isCell=true):
 Ih w S ρ (Uz c (co+r*st+o) vs) co st (fl&&xs.all AV.flat) (rows.set r (Ff cs o xs)):=by
 have hcl:cs.length=st:=k.wide cs (al4 hr)
 have hlt:r<rows.length:=(adD.1 hr).1
 have hin:co+r*st+st≤c.size:=by
  have h5:=k.len
  have h6:(r+1)*st≤rows.length*st:=aiH _ hlt
  rw[acG]at h6;omega
 have hvl:=hx.1
 have mem:∀row,row∈rows.set r (Ff cs o xs)→row∈rows∨row=Ff cs o xs:=fun row h=>by
  rcases atA h with h|h
  ·exact .inl h
  ·exact .inr h
 refine⟨by simpa [Vg]using k.len,fun row h=>?_,fun hf row h x hx'=>?_,fun i row j x h hj=>?_,fun row h x hx'=>?_⟩
 ·rcases mem row h with h|rfl
  ·exact k.wide row h
  ·rw[iO ho];exact hcl
 ·simp at hf
  rcases mem row h with h|rfl
  ·exact k.flat hf.1 row h x hx'
  ·rcases sF hx' with h'|h'
   ·exact k.flat hf.1 cs (al4 hr) x h'
   ·exact hf.2 x h'
 ·rw[apN]at h
  rw[gU _ _ _ _ (by omega)]
  by_cases hi:r=i
  ·subst hi
   rw[if_pos rfl]at h
   split at h
   ·simp at h;subst h
    rw[gK ho]at hj
    by_cases h1:o≤j∧j<o+xs.length
    ·rw[if_pos h1]at hj
     rw[if_pos (by omega)]
     have hlt':j-o<vs.length:=by omega
     refine⟨vs[j-o],?_,hx.2 _ x _ hj (acK hlt')⟩
     rw[show co+r*st+j-(co+r*st+o)=j-o by omega]
     exact acK hlt'
    ·rw[if_neg h1]at hj
     rw[if_neg (by omega)]
     exact k.cell r cs j x hr hj
   ·exact absurd hlt ‹_›
  ·rw[if_neg hi]at h
   have hjs:j<st:=by rw[←k.wide row (al4 h)];exact(adD.1 hj).1
   have:=agE (i:=i) (r:=r) (st:=st) (j:=j) (fun e=>hi e.symm) hjs
   rw[acG]at this
   rw[if_neg (by omega)]
   exact k.cell i row j x h hj
 ·rcases mem row h with h|rfl
  ·exact k.isCell row h x hx'
  ·rcases sF hx' with h'|h'
   ·exact k.isCell cs (al4 hr) x h'
   ·exact aiC.1 hc x h'
theorem LR.allCell{xs:List AV}{vs:List Value}(h:LR w S ρ xs vs)(hc:xs.all AV.isCell=true):∀v∈vs,Value.isCell v=true:=fun v hv=>by
 obtain⟨i,hi,rfl⟩:=List.mem_iff_getElem.1 hv
 have hi':i<xs.length:=by rw[h.1];exact hi
 exact(h.2 i xs[i] _ (acK hi') (acK hi)).cell (aiC.1 hc _ (asI hi'))
theorem aiX(H:HR w S ρ g){t:TypeId}{p v:AV}{cp cv:Value}{d:Ku}(h:bX P g t p v=some d)(hp:VR w S ρ p cp)(hv:VR w S ρ v cv):
 ∃w',(Instr.storeAt t cp cv).run P w=.ok () w'∧HR w' S ρ (Bg g d.es)∧Ip w w' S S ρ ρ∧d.v=.tup []∧Zg (Kw d.es) w w' ρ ρ∧aA d.es ρ ρ:=by
 unfold bX at h
 obtain⟨n,hn,h⟩:=acE.1 h
 cases p with
 |ptr b r o=>
  simp only at h
  split at h
  ·rename_i st fl wr rows hg
   obtain⟨cs,hr,h⟩:=acE.1 h
   split at h
   ·rename_i hc
    obtain⟨hc1,hc2,hc3⟩:=hc
    simp at h;subst h
    cases hp with
    |ptrD hρ=>rw[H.dead b hρ]at hg;simp at hg
    | @ptr _ _ _ _ cb co st' sz hρ=>
      obtain⟨c,e,fz,fl',rows',h1,h2,h3,h4⟩:=H.at_ b cb co st' sz hρ
      rcases h4 with⟨⟨wr',h4⟩,hS,hfz⟩|⟨h4,_⟩
      ·rw[hg]at h4
       simp at h4
       obtain⟨rfl,rfl,rfl,rfl⟩:=h4
       have hcells:=hv.cells
       have hsz:cv.cells.size=n:=by have:=hcells.1;simp at this;omega
       have hcl:cs.length=st:=h3.wide cs (al4 hr)
       have hlt:r<rows.length:=(adD.1 hr).1
       have hin:co+r*st+st≤c.size:=by
        have h5:=h3.len
        have h6:(r+1)*st≤rows.length*st:=aiH _ hlt
        rw[acG]at h6;omega
       have hrun:=bP (P:=P) (g:=cb) (o:=co+r*st+o) cv.cells.toList 0 c w h1 (by simp;omega) (fun j h5 h6=>hfz j (by simp at h6;omega)) (hcells.allCell hc3)
       have hb:=h3.set (o:=o) hr (by omega) hcells hc3
       refine⟨setB w cb (.cells (Uz c (co+r*st+o+0) cv.cells.toList) e fz),?_,?_,Ip.setB hρ hS ⟨_,_,_,h1⟩ _,rfl,Zg.setB H hρ ⟨_,List.mem_singleton.2 rfl,rfl⟩ _,aA.cells hρ⟩
       ·simp[Instr.storeAt,Instr.sureAddr,storeVar,Eb hn,hsz,hrun]
       ·simp only[Bg,Df,hg,Ua,hr]
        exact H.setLive hρ hS (by simp[Vg,h2]) hfz ⟨_,_,_,h1⟩ hb
      ·rw[hg]at h4;simp at h4
   ·simp at h
  ·simp at h
 |_=>simp at h
theorem Pg{α:Type}{st:Nat}:∀{rows:List (List α)} (_:∀r∈rows,r.length=st) {i:Nat} {r:List α} {j:Nat} {x:α},rows[i]?=some r→r[j]?=some x→rows.flatten[i*st+j]?=some x
 | [],_,i,r,j,x,h,_=>by simp at h
 |row::rows,hw,i,r,j,x,h,hx=>by
  have hrow:=hw row (al6 ..)
  rw[axV,asB]
  cases i with
  |zero=>
   simp at h;subst h
   have:j<row.length:=(adD.1 hx).1
   rw[if_pos (by simpa using this)];simpa using hx
  |succ i=>
   simp at h
   rw[acG,if_neg (by omega)]
   rw[show i*st+1*st+j-row.length=i*st+j by omega]
   exact Pg (fun r hr=>hw r (ap9 _ hr)) h hx
theorem Gh{α:Type}{st:Nat}:∀{rows:List (List α)},(∀r∈rows,r.length=st)→rows.flatten.length=rows.length*st
 | [],_=>by simp
 |row::rows,h=>by
  rw[axV,List.length_append,Gh (fun r hr=>h r (ap9 _ hr)),h row (al6 ..),awV,acG];omega
theorem Ih.ofRows{rows:List (List AV)}{st:Nat}{fl:Bool}{c:Array Value}(hw:∀r∈rows,r.length=st)(hf:fl=true→∀r∈rows,∀x∈r,x.flat=true)
 (hc:∀r∈rows,∀x∈r,x.isCell=true) {more:List Value} {vs:List Value} (hv:LR w S ρ rows.flatten vs) (hcs:c.toList=vs++more):Ih w S ρ c 0 st fl rows:=by
 have hl:vs.length=rows.length*st:=by rw[←hv.1,Gh hw]
 refine⟨?_,hw,hf,fun i r j x hr hx=>?_,hc⟩
 ·have:c.size=c.toList.length:=by simp
  rw[this,hcs];simp;omega
 ·have h1:=Pg hw hr hx
  have hlt:i*st+j<vs.length:=by rw[←hv.1];exact(adD.1 h1).1
  refine⟨vs[i*st+j],?_,hv.2 _ x _ h1 (acK hlt)⟩
  rw[←al3,hcs,Nat.zero_add,List.getElem?_append_left hlt]
  exact acK hlt
theorem afL(H:HR w S ρ g){base:Nat}(hb:ρ base=.fresh){v:AV}{cv:Value}{d:Ku}(h:uJ base v=some d)(hv:VR w S ρ v cv)(t:TypeId):
 ∃w' ρ',(newVar t cv).run P w=.ok ⟨w.heap.size,0,none⟩ w'∧VR w' S ρ' d.v (.pointer (some ⟨w.heap.size,0,none⟩))∧HR w' S ρ' (Bg g d.es)∧Ip w w' S S ρ ρ'∧Zg (Kw d.es) w w' ρ ρ'∧aA d.es ρ ρ':=by
 unfold uJ at h
 split at h
 ·rename_i hc
  simp at h;subst h
  have hcells:=hv.cells
  have hblk:Ih w S ρ cv.cells 0 (Am v).length ((Am v).all AV.flat) [Am v]:=by
   refine Ih.ofRows (more:=[]) (by simp) (fun hf r hr x hx=>?_) (fun r hr x hx=>?_) (vs:=cv.cells.toList) (by simpa using hcells) (by simp)
   ·simp at hr;subst hr;exact aiC.1 hf x hx
   ·simp at hr;subst hr;exact aiC.1 hc x hx
  refine⟨w.alloc (.cells cv.cells t),ρ.put base (.pl w.heap.size 0 (Am v).length cv.cells.size),?_,?_,?_,Ip.alloc hb H.old _ _ _ _,Zg.alloc H hb _ _ _,aA.alloc⟩
  ·simp[newVar,newRow]
  ·have:=VR.ptr (w:=w.alloc (.cells cv.cells t)) (S:=S) (r:=0) (o:=0) (Ba.put_same ρ base (.pl w.heap.size 0 (Am v).length cv.cells.size))
   simpa using this
  ·simp only[Bg,Df]
   exact H.alloc hb hblk t
 ·simp at h
end
section
variable {P:Program} {w:World} {S:Nat→Prop} {ρ:Ba} {g:HF}
theorem ao5{z:Array Value}{m k:Nat}(hk:k<m)(hz:0<z.size):((anC m).map (z[· % z.size]!))[k]?=some (z[k % z.size]'(ao3 _ hz)):=by
 have:k % z.size<z.size:=ao3 _ hz
 simp[hk,this]
theorem Ih.rep{z:AV}{cz:Value}(hz:VR w S ρ z cz){n:Nat}(hn:(Am z).length=n)(h0:n≠0)(hc:(Am z).all AV.isCell=true)(l c:Nat)(hl:l≤c):
 Ih w S ρ ((anC (c*n)).map (cz.cells[· % cz.cells.size]!)) 0 n ((Am z).all AV.flat) (al5 l (Am z)):=by
 have hcells:=hz.cells
 have hsz:cz.cells.size=n:=by have:=hcells.1;simp at this;omega
 refine⟨?_,fun r hr=>?_,fun hf r hr x hx=>?_,fun i r j x hr hx=>?_,fun r hr x hx=>?_⟩
 ·simp;exact aiH _ hl
 ·rw[(apC.1 hr).2];exact hn
 ·rw[(apC.1 hr).2]at hx;exact aiC.1 hf x hx
 ·have hil:i<l:=by have:=(adD.1 hr).1;simpa using this
  have hre:r=Am z:=by rw[List.getElem?_replicate,if_pos hil]at hr;simpa using hr.symm
  subst hre
  have hj:j<n:=by rw[←hn];exact(adD.1 hx).1
  have hk:0+i*n+j<c*n:=by
   have:(i+1)*n≤c*n:=aiH _ (by omega)
   rw[acG]at this;omega
  have hmod:(0+i*n+j) % cz.cells.size=j:=by
   rw[hsz,Nat.zero_add,asS,Nat.mul_add_mod];exact Nat.mod_eq_of_lt hj
  refine⟨cz.cells[j]'(by omega),?_,hcells.2 j x _ hx (by simp[show j<cz.cells.size by omega])⟩
  rw[ao5 hk (by omega)]
  simp only[hmod]
 ·rw[(apC.1 hr).2]at hx;exact aiC.1 hc x hx
theorem ab0{n:Int}(h0:0≤n)(h1:n≤2 ^ 40):IntKind.i64.wrap n=n:=IntWalk.i64_in n (by constructor<;>omega)
theorem xM(H:HR w S ρ g){base:Nat}(hb:ρ base=.fresh){t:TypeId}{len cap:AV}{cl cc:Value}{d:Ku}(h:Md P base t len cap=some d)(hl:VR w S ρ len cl)(hc:VR w S ρ cap cc):
 ∃cv w' ρ',(Instr.makeSlice t cl cc).run P w=.ok cv w'∧VR w' S ρ' d.v cv∧HR w' S ρ' (Bg g d.es)∧Ip w w' S S ρ ρ'∧Zg (Kw d.es) w w' ρ ρ'∧aA d.es ρ ρ':=by
 unfold Md at h
 simp only[acE]at h
 obtain⟨e,he,n,hn,by_,hby,z,hz,h⟩:=h
 split at h
 ·rename_i l c
  split at h
  ·rename_i hcnd
   obtain⟨h0,hlc,hc40,hby7,hn0,hzn,hzc⟩:=hcnd
   simp at h;subst h
   cases hl;cases hc
   have hu:P.underlying t=some (.slice e):=by
    unfold nJ at he
    split at he
    ·rename_i hu;simp at he;subst he;exact hu
    ·simp at he
   obtain⟨i,cz,hi,hiz,hov,hrun⟩:=aZ hz
   obtain⟨i',hi',hb'⟩:=ajT hby
   rw[hi]at hi';cases hi'
   have hzv:VR w S ρ z cz:=Rw hov
   have hblk:=Ih.rep hzv hzn hn0 hzc l.toNat c.toNat (by omega)
   have hw1:IntKind.i64.wrap l=l:=ab0 h0 (by omega)
   have hw2:IntKind.i64.wrap c=c:=ab0 (by omega) hc40
   have hcn:c.toNat*n≠0∨c.toNat*n=0:=by omega
   have hbig:¬((281474976710656:Int)<(i.bytes:Int)*c):=by
    have h1:(i.bytes:Int)≤128:=by omega
    have h2:(i.bytes:Int)*c≤128*2 ^ 40:=Int.le_trans (Int.mul_le_mul_of_nonneg_right h1 (by omega)) (Int.mul_le_mul_of_nonneg_left hc40 (by omega))
    omega
   generalize hA:(anC (c.toNat*n)).map (cz.cells[· % cz.cells.size]!)=A at hblk
   have hAs:A.size=c.toNat*n:=by rw[←hA];simp
   refine⟨.slice (some ⟨w.heap.size,0,none⟩) l.toNat c.toNat,w.alloc (.cells A e),ρ.put base (.pl w.heap.size 0 n A.size),?_,?_,?_,Ip.alloc hb H.old _ _ _ _,Zg.alloc H hb _ _ _,aA.alloc⟩
   ·have hnl:¬l<0:=by omega
    have hgt:¬l>c:=by omega
    have hcl:¬c<0:=by omega
    by_cases hcz:c.toNat*n=0
    ·have hA0:A=#[]:=by apply ayH;omega
     simp[Instr.makeSlice,run_underlying hu,asInt,asIntOf,typeInfo,hi,hw1,hw2,hnl,hgt,hcl,hbig,Eb hn,hcz,newRow,hA0,show anC 0=#[]from rfl]
    ·simp[Instr.makeSlice,run_underlying hu,asInt,asIntOf,typeInfo,hi,hw1,hw2,hnl,hgt,hcl,hbig,Eb hn,hcz,newRow,hrun,hA]
   ·refine .slr (Ba.put_same ..) (by omega) (.inr ⟨by simp,?_⟩)
    simp[hAs]
   ·simp only[Bg,Df]
    exact H.alloc hb hblk e
  ·simp at h
 ·simp at h
theorem alL{st:Nat}{rows:List (List AV)}{i:Nat}{xs:List AV}(hw:∀r∈rows,r.length=st)(hx:xs.length=st)(hi:i<rows.length):Ff rows.flatten (i*st) xs=(rows.set i xs).flatten:=by
 have hw':∀r∈rows.set i xs,r.length=st:=fun r hr=>by
  rcases atA hr with hr|rfl
  ·exact hw r hr
  ·exact hx
 have hlen:=Gh hw
 have hlen':=Gh hw'
 have hin:i*st+st≤rows.length*st:=by
  have:(i+1)*st≤rows.length*st:=aiH _ hi
  rw[acG]at this;omega
 apply List.ext_getElem?
 intro k
 rw[gK (by omega)]
 by_cases hk:k<rows.length*st
 ·have hst:0<st:=by rcases asX st with h|h;(subst h;simp at hk);exact h
  have hkn:k % st<st:=ao3 _ hst
  have hdiv:k / st<rows.length:=by rw[atB hst];exact hk
  have hke:k / st*st+k % st=k:=by rw[asS];exact atX k st
  have e1:=Pg hw (i:=k / st) (r:=rows[k / st]) (j:=k % st) (x:=rows[k / st][k % st]'(by rw[hw _ (asI hdiv)];exact hkn)) (acK hdiv) (acK _)
  rw[hke]at e1
  by_cases hd:k / st=i
  ·subst hd
   rw[if_pos (by omega)]
   have hlt:k % st<xs.length:=by omega
   have e2:=Pg hw' (i:=k / st) (r:=xs) (j:=k % st) (x:=xs[k % st]) (by rw[apN];simp[hdiv]) (acK hlt)
   rw[hke]at e2
   rw[e2,show k-k / st*st=k % st by omega]
   exact acK hlt
  ·have hap:=agE (i:=k / st) (r:=i) (st:=st) (j:=k % st) hd hkn
   rw[acG]at hap
   rw[if_neg (by omega),e1]
   have e2:=Pg hw' (i:=k / st) (r:=rows[k / st]) (j:=k % st) (x:=rows[k / st][k % st]'(by rw[hw _ (asI hdiv)];exact hkn)) (by rw[apN,if_neg (Ne.symm hd)];exact acK hdiv) (acK _)
   rw[hke]at e2
   exact e2.symm
 ·rw[if_neg (by omega),anF (by omega),anF (by rw[hlen'];simp;omega)]
theorem oK{n:Nat}:∀{parts:List (Nat × AV)} {rows r:List (List AV)},Ws n rows parts=some r→(∀r∈rows,r.length=n)→
 Vj (fun i=>some (i*n,n)) rows.flatten parts=some r.flatten∧(∀x∈r,x.length=n)∧r.length=rows.length
 | [],rows,r,h,hw=>by simp[Ws]at h;subst h;exact⟨by simp[Vj],hw,rfl⟩
 |(i,v)::parts,rows,r,h,hw=>by
  unfold Ws at h
  split at h
  ·rename_i hc
   have hw':∀r∈rows.set i (Am v),r.length=n:=fun r hr=>by
    rcases atA hr with hr|rfl
    ·exact hw r hr
    ·exact hc.1
   obtain⟨h1,h2,h3⟩:=oK h hw'
   refine⟨?_,h2,by simpa using h3⟩
   unfold Vj
   have hin:i*n+n≤rows.flatten.length:=by
    rw[Gh hw]
    have:(i+1)*n≤rows.length*n:=aiH _ hc.2
    rw[acG]at this;omega
   simp only[hc.1,hin,and_self,if_true]
   rw[alL hw hc.1 hc.2];exact h1
  ·simp at h
theorem uY(H:HR w S ρ g){base:Nat}(hb:ρ base=.fresh){t:TypeId}{len:Nat}{parts:List (Nat × AV)}{cparts:Array (Nat × Value)}{d:Ku}(h:Du P base t len parts=some d)
 (hlen:parts.length=cparts.toList.length) (hp:∀(i:Nat) p q,parts[i]?=some p→cparts.toList[i]?=some q→p.1=q.1∧VR w S ρ p.2 q.2):
 ∃cv w' ρ',(Instr.buildSlice t len cparts).run P w=.ok cv w'∧VR w' S ρ' d.v cv∧HR w' S ρ' (Bg g d.es)∧Ip w w' S S ρ ρ'∧Zg (Kw d.es) w w' ρ ρ'∧aA d.es ρ ρ':=by
 unfold Du at h
 simp only[acE]at h
 obtain⟨e,he,n,hn,z,hz,h⟩:=h
 split at h
 ·simp at h
 ·rename_i hcnd
  obtain⟨hn0,hzn,hbig⟩:n≠0∧(Am z).length=n∧¬2 ^ 24<len*n:=by
   refine⟨fun h=>hcnd (.inl h),?_,fun h=>hcnd (.inr (.inr h))⟩
   by_cases hh:(Am z).length=n
   ·exact hh
   ·exact(hcnd (.inr (.inl hh))).elim
  obtain⟨rows,hrows,h⟩:=acE.1 h
  split at h
  ·rename_i hcell
   simp at h;subst h
   have hu:P.underlying t=some (.slice e):=by
    unfold nJ at he
    split at he
    ·rename_i hu;simp at he;subst he;exact hu
    ·simp at he
   obtain⟨i,cz,hi,hiz,hov,hrun⟩:=aZ hz
   have hzv:VR w S ρ z cz:=Rw hov
   have hcells:=hzv.cells
   have hzs:cz.cells.size=n:=by have:=hcells.1;simp at this;omega
   obtain⟨h1,h2,h3⟩:=oK hrows (fun r hr=>by rw[(apC.1 hr).2];exact hzn)
   generalize hA:(anC (len*n)).map (cz.cells[· % cz.cells.size]!)=A
   have hAs:A.size=len*n:=by rw[←hA];simp
   have hlr:LR w S ρ (al5 len (Am z)).flatten A.toList:=by
    have hw0:∀r∈al5 len (Am z),r.length=n:=fun r hr=>by rw[(apC.1 hr).2];exact hzn
    refine⟨by rw[Gh hw0];simp[hAs],fun k x v hx hv=>?_⟩
    have hk:k<len*n:=by have:=(adD.1 hx).1;rw[Gh hw0]at this;simpa using this
    have hkn:k % n<n:=ao3 _ (by omega)
    have hdiv:k / n<len:=by rw[atB (by omega)];exact hk
    have h5:=Pg hw0 (i:=k / n) (r:=Am z) (j:=k % n) (x:=(Am z)[k % n]'(by omega)) (by simp[hdiv]) (acK (by omega))
    rw[show k / n*n+k % n=k by rw[asS];exact atX k n]at h5
    rw[h5]at hx;cases hx
    rw[al3,←hA,ao5 hk (by omega)]at hv
    cases hv
    refine hcells.2 (k % n) _ _ (acK (by omega)) ?_
    simp only[hzs]
    simp[show k % n<cz.cells.size by omega]
   obtain⟨cr,h4,h5⟩:=fM h1 hlr hlen hp
   have hblk:Ih w S ρ cr 0 n ((Am z).all AV.flat&&rows.all (·.all AV.flat)) rows:=by
    refine Ih.ofRows (more:=[]) h2 (fun hf0 r hr x hx=>?_) (fun r hr x hx=>?_) h5 (by simp)
    ·exact aiC.1 (aiC.1 (Bool.and_eq_true_iff.1 hf0).2 r hr) x hx
    ·exact aiC.1 (aiC.1 hcell r hr) x hx
   have hcrs:cr.size=len*n:=by
    have h6:=h5.1
    rw[Gh h2,h3]at h6;simpa using h6.symm
   refine⟨.slice (some ⟨w.heap.size,0,none⟩) len len,w.alloc (.cells cr e),ρ.put base (.pl w.heap.size 0 n cr.size),?_,?_,?_,Ip.alloc hb H.old _ _ _ _,Zg.alloc H hb _ _ _,aA.alloc⟩
   ·by_cases hz0:len*n=0
    ·have hA0:A=#[]:=by apply ayH;omega
     rw[hA0]at h4
     simp[Instr.buildSlice,run_underlying hu,Eb hn,hz0,newRow,h4,show anC 0=#[]from rfl]
    ·simp[Instr.buildSlice,run_underlying hu,Eb hn,hz0,newRow,hrun,hA,h4,hbig]
   ·refine .slr (Ba.put_same ..) (aiK _) (.inr ⟨by simp,?_⟩)
    simp[hcrs]
   ·simp only[Bg,Df]
    exact H.alloc hb hblk e
  ·simp at h
end
section
variable {P:Program} {w:World} {S:Nat→Prop} {ρ:Ba} {g:HF}
theorem akS{b off st:Nat}{rows:List (List AV)}{f:Nat→Nat→Value}(hw:∀r∈rows,r.length=st)
 (hc:∀(i:Nat) (r:List AV) (j:Nat) (x:AV),rows[i]?=some r→r[j]?=some x→w.cell? ⟨b,off+i*st+j,none⟩=some (f i j))
 (hv:∀(i:Nat) (r:List AV) (j:Nat) (x:AV),rows[i]?=some r→r[j]?=some x→VR w S ρ x (f i j)):
 ∃vals,LR w S ρ rows.flatten vals∧rE w b off vals:=by
 refine⟨(aiI (rows.length*st)).map fun k=>f (k / st) (k % st),⟨by rw[Gh hw];simp,fun k x v hx hv'=>?_⟩,fun k v hv'=>?_⟩
 all_goals
  have hk:k<rows.length*st:=by
   first
    |(have:=(adD.1 hx).1;rw[Gh hw]at this;exact this)
    |(have:=(adD.1 hv').1;simpa using this)
  have hst:0<st:=by rcases asX st with h|h;(subst h;simp at hk);exact h
  have hkn:k % st<st:=ao3 _ hst
  have hdiv:k / st<rows.length:=by rw[atB hst];exact hk
  have hr:rows[k / st]?=some rows[k / st]:=acK hdiv
  have hl:rows[k / st].length=st:=hw _ (asI hdiv)
  have hx':rows[k / st][k % st]?=some (rows[k / st][k % st]'(by omega)):=acK (by omega)
  have hke:k / st*st+k % st=k:=by rw[asS];exact atX k st
  simp[as9 hk]at hv'
  subst hv'
 ·have h5:=Pg hw hr hx'
  rw[hke]at h5
  rw[h5]at hx;cases hx
  exact hv _ _ _ _ hr hx'
 ·have h6:=hc _ _ _ _ hr hx'
  rw[show off+k / st*st+k % st=off+k by omega]at h6
  exact h6
theorem gA(H:HR w S ρ g){b r len st:Nat}{fl:Bool}{rows:List (List AV)}(h:Jl g b r len=some (st,fl,rows)){st':Nat}{cx:Value}(hx:VR w S ρ (.slr st' b r len) cx):
 ∃(cb co sz cap:Nat) (a:Addr) (vals:List Value),ρ b=.pl cb co st sz∧cx=.slice (some a) len cap∧st'=st∧len≤cap∧(cap=0∨(a=⟨cb,co+r*st,none⟩∧co+(r+cap)*st≤sz))∧
  LR w S ρ rows.flatten vals∧rE w cb (co+r*st) vals∧rows.length=len∧(∀r∈rows,r.length=st)∧(fl=true→∀r∈rows,∀x∈r,x.flat=true)∧(∀r∈rows,∀x∈r,x.isCell=true):=by
 cases hx with
 | @slr _ _ _ _ cb co _ sz cap a hρ hle ha=>
   obtain⟨c,e,fz,fl',rows',h1,h2,h3,h4⟩:=H.at_ b cb co st' sz hρ
   have hg:r+len≤rows'.length∧st'=st∧fl'=fl∧(rows'.drop r).take len=rows:=by
    rcases h4 with⟨⟨wr,h4⟩,_⟩|⟨h4,_⟩<;>simpa [Jl,h4]using h
   obtain⟨hrl,rfl,rfl,rfl⟩:=hg
   have hmem:∀row,row∈(rows'.drop r).take len→row∈rows':=fun row hr=>amP (al7 hr)
   have hsub:∀(i:Nat) row,((rows'.drop r).take len)[i]?=some row→rows'[r+i]?=some row:=fun i row hr=>by
    rw[al2]at hr
    split at hr
    ·rwa[ahZ]at hr
    ·simp at hr
   obtain⟨vals,hv1,hv2⟩:=akS (w:=w) (S:=S) (ρ:=ρ) (b:=cb) (off:=co+r*st') (st:=st') (rows:=(rows'.drop r).take len) (f:=fun i j=>(c[co+(r+i)*st'+j]?).getD undef)
    (fun r hr=>h3.wide r (hmem r hr))
    (fun i row j x hr hx=>by
      obtain⟨v,h5,h6⟩:=h3.cell (r+i) row j x (hsub i row hr) hx
      rw[pW h1,show co+r*st'+i*st'+j=co+(r+i)*st'+j by rw[acG];omega,h5];rfl)
    (fun i row j x hr hx=>by
      obtain⟨v,h5,h6⟩:=h3.cell (r+i) row j x (hsub i row hr) hx
      rw[h5];exact h6)
   exact⟨cb,co,sz,cap,a,vals,hρ,rfl,rfl,hle,ha,hv1,hv2,by simp;omega,fun row hr=>h3.wide row (hmem row hr),fun hf row hr=>h3.flat hf row (hmem row hr),fun row hr=>h3.isCell row (hmem row hr)⟩
 |slrD hρ hle=>simp[Jl,H.dead b hρ]at h
theorem lT(H:HR w S ρ g){e:TypeId}{n:Nat}(hn:bG P e=some n){x:AV}{cx:Value}{fl:Bool}{new:List (List AV)}{fs:List Fq}(h:Hg P g e x=some (fl,new,fs))(hx:VR w S ρ x cx):
 ∃vals:List Value,(∀w',(Builtin.lenOf cx).run P w'=.ok new.length w')∧(∀w',w'.heap=w.heap→(Builtin.firstCells n new.length cx).run P w'=.ok vals.toArray w')∧LR w S ρ new.flatten vals∧
  (∀r∈new,r.length=n)∧(fl=true→∀r∈new,∀x∈r,x.flat=true)∧(∀r∈new,∀x∈r,x.isCell=true):=by
 have cellw:∀{w':World},w'.heap=w.heap→∀a,w'.cell? a=w.cell? a:=fun h a=>by simp only[World.cell?,h]
 unfold Hg at h
 split at h
 ·simp at h;obtain⟨rfl,rfl,rfl⟩:=h
  cases hx
  exact⟨[],fun w'=>by simp[Builtin.lenOf],fun w' _=>by simp[Builtin.firstCells],.nil,by simp,by simp,by simp⟩
 ·rename_i st fl' rows
  split at h
  ·rename_i hs
   rw[hn]at hs;cases hs
   simp at h;obtain⟨rfl,rfl,rfl⟩:=h
   cases hx with
   | @imm _ _ _ _ a cap f hs hle hw hfl hcl hc hv=>
     rcases hs with rfl|⟨hs,hsp⟩
     ·exact⟨[],fun w'=>by simp[Builtin.lenOf],fun w' _=>by simp[Builtin.firstCells,loadCells,loadCellsFrom],.nil,by simp,by simp,by simp⟩
     ·obtain⟨ab,ao,as⟩:=a
      simp at hsp;subst hsp
      obtain⟨vals,h1,h2⟩:=akS hw hc (hv ρ)
      have hvl:vals.length=rows.length*n:=by rw[←h1.1,Gh hw]
      refine⟨vals,fun w'=>by simp[Builtin.lenOf],fun w' hw'=>?_,h1,hw,hfl,hcl⟩
      have:=Vf (P:=P) (w:=w') (b:=ab) (off:=ao) (vs:=vals) (fun j v hv=>by rw[cellw hw'];exact h2 j v hv)
      rw[hvl]at this
      simp[Builtin.firstCells,this]
  ·simp at h
 ·rename_i st b r len
  simp only[acE]at h
  obtain⟨⟨st',fl',rows⟩,hr,h⟩:=h
  simp only at h
  split at h
  ·rename_i hs
   rw[hn]at hs;cases hs
   simp at h;obtain⟨rfl,rfl,rfl⟩:=h
   obtain⟨cb,co,sz,cap,a,vals,h1,rfl,rfl,h4,h5,h6,h7,h8,h9,h10,h11⟩:=gA H hr hx
   have hvl:vals.length=rows.length*st:=by rw[←h6.1,Gh h9]
   refine⟨vals,fun w'=>by simp[Builtin.lenOf,h8],fun w' hw'=>?_,h6,h9,h10,h11⟩
   rcases h5 with h5|⟨rfl,_⟩
   ·have:rows.length=0:=by omega
    have hv0:vals=[]:=aoC (by rw[hvl,this];simp)
    simp[Builtin.firstCells,this,hv0,loadCells,loadCellsFrom]
   ·have:=Vf (P:=P) (w:=w') (b:=cb) (off:=co+r*st) (vs:=vals) (fun j v hv=>by rw[cellw hw'];exact h7 j v hv)
    rw[hvl]at this
    simp[Builtin.firstCells,this]
  ·simp at h
 ·rename_i s
  split at h
  ·rename_i hu
   simp at h;obtain⟨rfl,rfl,rfl⟩:=h
   cases hx with
   |str s=>
    rw[hn]at hu;cases hu
    refine⟨s.data.toList.map fun b=>.int .u8 b.toNat,fun w'=>by simp[Builtin.lenOf],fun w' _=>?_,?_,by simp,by simp[AV.flat],by simp[AV.isCell]⟩
    ·have hex:s.extract 0 s.size=s:=by simp
     have:s.data.toList.length=s.size:=by simp
     simp[Builtin.firstCells,hex]
     apply Array.ext'
     simp
    ·have hfl:(s.data.toList.map fun b=>[AV.int .u8 b.toNat]).flatten=s.data.toList.map fun b=>AV.int .u8 b.toNat:=by
      generalize s.data.toList=l
      induction l with
      |nil=>rfl
      |cons a l ih=>simp[ih]
     rw[hfl]
     refine⟨by simp,fun i x v hx hv=>?_⟩
     simp only[List.getElem?_map,acZ]at hx hv
     obtain⟨b,hb,rfl⟩:=hx
     obtain⟨b',hb',rfl⟩:=hv
     rw[hb]at hb';cases hb'
     exact .int _ _
  ·simp at h
 ·simp at h
def aX8(P:Program)(t:TypeId):Prop:=(∃e,P.underlying t=some (.slice e))∨P.underlying t=some .string
theorem kG{ts:Array TypeId}{t t1 ty e:TypeId}(h0:ts[0]?=some t)(h1:ts[1]?=some t1)(hu:P.underlying t=some (.slice e))(hz:aX8 P t1){n size:Nat}(hs:bG P e=some size)
 {base:Option Addr} {sLen sCap:Nat} {cx:Value} (hlen:∀w',(Builtin.lenOf cx).run P w'=.ok n w') (hfit:sLen+n≤sCap) {news:Array Value} (hnew:(Builtin.firstCells size n cx).run P w=.ok news w):
 (Builtin.append_ ts ty #[.slice base sLen sCap,cx]).run P w=
   match base with
   |some a=>((storeCells (a.add (sLen*size)) news.toList).run P w).andThen fun _ w'=>.ok (.slice base (sLen+n) sCap) w'
   |none=>.ok (.slice base (sLen+n) sCap) w:=by
 rcases hz with⟨e',hd⟩|hd<;>cases base<;>simp[Builtin.append_,h0,h1,run_underlying hu,run_underlying hd,Eb hs,hlen,hfit,hnew]
def aaL(w:World)(need old:Nat)(e:TypeId):Nat:=need+w.tape w.drawn (.appendCap need old e) % (2 ^ 63-need)
theorem kD{ts:Array TypeId}{t t1 ty e:TypeId}(h0:ts[0]?=some t)(h1:ts[1]?=some t1)(hu:P.underlying t=some (.slice e))(hz:aX8 P t1){n:Nat}{i:TypeInfo}(hi:P.info? e=some i){z:Value}(hzv:i.zero=some z)
 {base:Option Addr} {sLen sCap:Nat} {cx:Value} (hlen:∀w',(Builtin.lenOf cx).run P w'=.ok n w') (hfit:¬sLen+n≤sCap) (h63:sLen+n≤2 ^ 39) (hby:i.bytes≤2 ^ 8) {olds news:Array Value}
 (hold:(Builtin.firstCells i.size sLen (.slice base sLen sCap)).run P w.drew=.ok olds w.drew) (hnew:(Builtin.firstCells i.size n cx).run P w.drew=.ok news w.drew):
 (Builtin.append_ ts ty #[.slice base sLen sCap,cx]).run P w=
   .ok (.slice (some ⟨w.heap.size,0,none⟩) (sLen+n) (aaL w (sLen+n) sCap e)) (w.drew.alloc (.cells (olds++news++Builtin.zeroCells z.cells (aaL w (sLen+n) sCap e-(sLen+n))) e)):=by
 have hb:Builtin.nextslicecap (sLen+n) sCap*i.bytes≤281474976710656:=by
  refine growslice_fits (by omega) ?_
  calc (sLen+n)*i.bytes≤2 ^ 39*2 ^ 8:=Nat.mul_le_mul h63 hby
   _≤_:=by decide
 have hb':¬(281474976710656<Builtin.nextslicecap (sLen+n) sCap*i.bytes):=by omega
 have h63':¬((9223372036854775807:Int)<(sLen:Int)+(n:Int)):=by omega
 rcases hz with⟨e',hd⟩|hd<;>simp[Builtin.append_,h0,h1,run_underlying hu,run_underlying hd,sizeOf,typeInfo,zeroValue,hi,hzv,hlen,hfit,hb',h63',Question.forced,hold,hnew,newRow,aaL,Question.cut]
end
section
variable {P:Program} {w:World} {S:Nat→Prop} {ρ:Ba} {g:HF}
theorem Ip.rebase{b cb co st sz:Nat}(hb:ρ b=.pl cb co st sz)(hS:¬S cb)(hcl:∃c e f,w.heap[cb]?=some (.cells c e f)){base:Nat}(hf:ρ base=.fresh)(o:Obj)(co' st' sz':Nat):
 Ip w (Ev.setB w cb o) S S ρ ((ρ.put b .dead).put base (.pl cb co' st' sz')):=by
 have hne:base≠b:=fun e=>by rw[e,hb]at hf;cases hf
 have h:=Ip.setB (w:=w) hb hS hcl o
 refine⟨h.size,h.os,h.tape,h.output,h.keep,h.sub,?_,h.other,fun id cb' co1 st1 sz1 e=>?_,?_,h.objs,h.loops,fun id l e=>?_⟩
 ·exact Ba.le_trans (Ba.le_put_dead ρ b) (Ba.le_put_fresh (by rw[Ba.put_other _ _ hne];exact hf) _)
 ·by_cases h1:id=base
  ·subst h1;rw[Ba.put_same]at e;cases e;exact .inr ⟨b,_,_,_,hb⟩
  ·rw[Ba.put_other _ _ h1]at e
   by_cases h2:id=b
   ·subst h2;rw[Ba.put_same]at e;cases e
   ·rw[Ba.put_other _ _ h2]at e;exact .inr ⟨id,_,_,_,e⟩
 ·exact fun _ h=>.inl h
 ·by_cases h1:id=base
  ·subst h1;rw[Ba.put_same]at e;cases e
  ·rw[Ba.put_other _ _ h1]at e
   by_cases h2:id=b
   ·subst h2;rw[Ba.put_same]at e;cases e
   ·rw[Ba.put_other _ _ h2]at e;exact .inr ⟨id,e⟩
theorem HR.rebase(H:HR w S ρ g){b cb co st sz:Nat}(hb:ρ b=.pl cb co st sz)(hS:¬S cb){base:Nat}(hf:ρ base=.fresh){c:Array Value}{e:TypeId}{fz:Nat × Nat}(hsz:c.size=sz)
 (hfz:∀o,o<sz→¬(fz.1≤o∧o<fz.2)) {co':Nat} {fl wr:Bool} {rows:List (List AV)} (hg:∃c e f,w.heap[cb]?=some (.cells c e f)) (k:Ih w S ρ c co' st fl rows):
 HR (Ev.setB w cb (.cells c e fz)) S ((ρ.put b .dead).put base (.pl cb co' st sz)) (upd (upd g b .dead) base (.live st fl wr rows)):=by
 have hne:base≠b:=fun e=>by rw[e,hb]at hf;cases hf
 have hs:=Ip.rebase (w:=w) hb hS hg hf (.cells c e fz) co' st sz
 have look:∀id cb' co1 st1 sz1,((ρ.put b .dead).put base (.pl cb co' st sz)) id=.pl cb' co1 st1 sz1→(id=base∧cb'=cb∧co1=co'∧st1=st∧sz1=sz)∨(id≠base∧id≠b∧ρ id=.pl cb' co1 st1 sz1):=by
  intro id cb' co1 st1 sz1 h
  by_cases h1:id=base
  ·subst h1;rw[Ba.put_same]at h;cases h;exact .inl ⟨rfl,rfl,rfl,rfl,rfl⟩
  ·rw[Ba.put_other _ _ h1]at h
   by_cases h2:id=b
   ·subst h2;rw[Ba.put_same]at h;cases h
   ·rw[Ba.put_other _ _ h2]at h;exact .inr ⟨h1,h2,h⟩
 have lookL:∀id l,((ρ.put b .dead).put base (.pl cb co' st sz)) id=.lp l→id≠base∧id≠b∧ρ id=.lp l:=by
  intro id l h
  by_cases h1:id=base
  ·subst h1;rw[Ba.put_same]at h;cases h
  ·rw[Ba.put_other _ _ h1]at h
   by_cases h2:id=b
   ·subst h2;rw[Ba.put_same]at h;cases h
   ·rw[Ba.put_other _ _ h2]at h;exact⟨h1,h2,h⟩
 refine⟨fun id cb' co1 st1 sz1 h=>?_,fun id h=>?_,fun i1 i2 cb' a1 a2 a3 b1 b2 b3 h1 h2=>?_,fun b h=>by have:=H.old b h;simpa [Ev.setB]using this,fun id l h=>?_,fun i1 i2 l h1 h2=>H.linj i1 i2 l (lookL i1 l h1).2.2 (lookL i2 l h2).2.2,fun id l h=>H.lnS id l (lookL id l h).2.2⟩
 ·rcases look _ _ _ _ _ h with⟨rfl,rfl,rfl,rfl,rfl⟩|⟨h1,h2,h3⟩
  ·obtain⟨_,_,_,ho⟩:=hg
   exact⟨c,e,fz,fl,rows,bA ho,hsz,k.sim hs,.inl ⟨⟨wr,by simp[upd]⟩,hS,hfz⟩⟩
  ·obtain⟨c',e',fz',fl',rows',k1,k2,k3,k4⟩:=H.at_ _ _ _ _ _ h3
   have hcb:cb'≠cb:=fun e=>h2 (H.inj _ _ _ _ _ _ _ _ _ h3 (e▸hb))
   exact⟨c',e',fz',fl',rows',by rw[Bj hcb];exact k1,k2,k3.sim hs,by simpa [upd,h1,h2]using k4⟩
 ·by_cases h1:id=base
  ·subst h1;rw[Ba.put_same]at h;cases h
  ·rw[Ba.put_other _ _ h1]at h
   by_cases h2:id=b
   ·subst h2;simp[upd,h1]
   ·rw[Ba.put_other _ _ h2]at h;simpa [upd,h1,h2]using H.dead id h
 ·rcases look _ _ _ _ _ h1 with⟨rfl,rfl,_⟩|⟨k1,k2,k3⟩<;>rcases look _ _ _ _ _ h2 with⟨rfl,e2,_⟩|⟨m1,m2,m3⟩
  ·rfl
  ·exact(m2 (H.inj _ _ _ _ _ _ _ _ _ m3 hb)).elim
  ·subst e2;exact(k2 (H.inj _ _ _ _ _ _ _ _ _ k3 hb)).elim
  ·exact H.inj _ _ _ _ _ _ _ _ _ k3 m3
 ·obtain⟨h1,h2,h3⟩:=lookL id l h
  obtain⟨r,ps,asg,body,tmps,st',k1,k2,k3⟩:=H.lps id l h3
  refine⟨r,ps,asg,body,tmps,st',?_,by simpa [upd,h1,h2]using k2,k3.sim hs⟩
  obtain⟨_,_,_,ho⟩:=hg
  rw[Bj (fun q=>by subst q;rw[ho]at k1;cases k1;exact k3.cells)];exact k1
theorem Ip.kill(w:World)(S:Nat→Prop)(ρ:Ba)(b:Nat):Ip w w S S ρ (ρ.put b .dead):=
 ⟨aiK _,rfl,rfl,rfl,fun _ _=>rfl,fun _ h=>h,Ba.le_put_dead ρ b,fun _ _ _ _=>rfl,fun id cb co st sz h=>by
   by_cases h2:id=b
   ·subst h2;rw[Ba.put_same]at h;cases h
   ·rw[Ba.put_other _ _ h2]at h;exact .inr ⟨id,_,_,_,h⟩,fun _ h=>.inl h,fun _ _ h _=>h,fun _ r h=>⟨r.state,r.pending,h⟩,fun id l h=>by
   by_cases h2:id=b
   ·subst h2;rw[Ba.put_same]at h;cases h
   ·rw[Ba.put_other _ _ h2]at h;exact .inr ⟨id,h⟩⟩
theorem HR.kill(H:HR w S ρ g)(b:Nat):HR w S (ρ.put b .dead) (upd g b .dead) where
 at_:=fun id cb co st sz h=>by
  by_cases h2:id=b
  ·subst h2;rw[Ba.put_same]at h;cases h
  ·rw[Ba.put_other _ _ h2]at h
   obtain⟨c',e',fz',fl',rows',k1,k2,k3,k4⟩:=H.at_ _ _ _ _ _ h
   exact⟨c',e',fz',fl',rows',k1,k2,k3.sim (Ip.kill w S ρ b),by simpa [upd,h2]using k4⟩
 dead:=fun id h=>by
  by_cases h2:id=b
  ·subst h2;simp[upd]
  ·rw[Ba.put_other _ _ h2]at h;simpa [upd,h2]using H.dead id h
 inj:=fun i1 i2 cb' a1 a2 a3 b1 b2 b3 h1 h2=>by
  by_cases e1:i1=b
  ·subst e1;rw[Ba.put_same]at h1;cases h1
  ·by_cases e2:i2=b
   ·subst e2;rw[Ba.put_same]at h2;cases h2
   ·rw[Ba.put_other _ _ e1]at h1;rw[Ba.put_other _ _ e2]at h2;exact H.inj _ _ _ _ _ _ _ _ _ h1 h2
 old:=H.old
 lps:=fun id l h=>by
  by_cases h2:id=b
  ·subst h2;rw[Ba.put_same]at h;cases h
  ·rw[Ba.put_other _ _ h2]at h
   obtain⟨r,ps,asg,body,tmps,st',k1,k2,k3⟩:=H.lps id l h
   exact⟨r,ps,asg,body,tmps,st',k1,by simpa [upd,h2]using k2,k3.sim (Ip.kill w S ρ b)⟩
 linj:=fun i1 i2 l h1 h2=>by
  have hn:∀x,ρ.put b .dead x=.lp l→ρ x=.lp l:=fun x hx=>by
   by_cases hi:x=b
   ·subst hi;rw[Ba.put_same]at hx;cases hx
   ·rw[Ba.put_other _ _ hi]at hx;exact hx
  exact H.linj i1 i2 l (hn i1 h1) (hn i2 h2)
 lnS:=fun id l h=>by
  by_cases h2:id=b
  ·subst h2;rw[Ba.put_same]at h;cases h
  ·rw[Ba.put_other _ _ h2]at h;exact H.lnS id l h
theorem jQ(z:Array Value)(n:Nat):(Builtin.zeroCells z n).size=n*z.size:=by simp[Builtin.zeroCells]
theorem Ih.drop{c:Array Value}{co st:Nat}{fl:Bool}{rows:List (List AV)}(k:Ih w S ρ c co st fl rows)(r:Nat)(hr:r≤rows.length):Ih w S ρ c (co+r*st) st fl (rows.drop r):=by
 refine⟨?_,fun x hx=>k.wide x (amP hx),fun hf x hx=>k.flat hf x (amP hx),fun i row j x h hj=>?_,fun x hx=>k.isCell x (amP hx)⟩
 ·have:=k.len
  have h2:rows.length*st=r*st+(rows.length-r)*st:=by rw[←acG];congr 1;omega
  simp;omega
 ·rw[ahZ]at h
  obtain⟨v,h1,h2⟩:=k.cell _ row j x h hj
  refine⟨v,?_,h2⟩
  rw[←h1];congr 1;rw[acG];omega
theorem Ih.take{c:Array Value}{co st:Nat}{fl:Bool}{rows:List (List AV)}(k:Ih w S ρ c co st fl rows)(n:Nat):Ih w S ρ c co st fl (rows.take n):=by
 refine⟨?_,fun x hx=>k.wide x (al7 hx),fun hf x hx=>k.flat hf x (al7 hx),fun i row j x h hj=>?_,fun x hx=>k.isCell x (al7 hx)⟩
 ·have:=k.len
  have h2:(rows.take n).length*st≤rows.length*st:=aiH _ (by simp;omega)
  omega
 ·rw[al2]at h
  split at h
  ·exact k.cell i row j x h hj
  ·cases h
theorem Ih.more{c:Array Value}{co st:Nat}{fl nfl:Bool}{rows new:List (List AV)}(k:Ih w S ρ c co st fl rows){vals:List Value}(s3:LR w S ρ new.flatten vals)(s4:∀r∈new,r.length=st)
 (s5:nfl=true→∀r∈new,∀x∈r,x.flat=true) (s6:∀r∈new,∀x∈r,x.isCell=true) (hsz:co+(rows.length+new.length)*st≤c.size):
 Ih w S ρ (Uz c (co+rows.length*st) vals) co st (fl&&nfl) (rows++new):=by
 have hvl:vals.length=new.length*st:=by rw[←s3.1,Gh s4]
 have hin:co+rows.length*st+vals.length≤c.size:=by rw[hvl];rw[acG]at hsz;omega
 refine⟨by simpa [Vg]using hsz,fun r hr=>?_,fun hf r hr=>?_,fun i row j x h hj=>?_,fun r hr=>?_⟩
 ·rcases al9.1 hr with hr|hr
  ·exact k.wide r hr
  ·exact s4 r hr
 ·simp at hf
  rcases al9.1 hr with hr|hr
  ·exact k.flat hf.1 r hr
  ·exact s5 hf.2 r hr
 ·rw[gU _ _ _ _ hin]
  rw[asB]at h
  by_cases hi:i<rows.length
  ·rw[if_pos hi]at h
   have hjs:j<st:=by rw[←k.wide row (al4 h)];exact(adD.1 hj).1
   have:(i+1)*st≤rows.length*st:=aiH _ hi
   rw[acG]at this
   rw[if_neg (by omega)]
   exact k.cell i row j x h hj
  ·rw[if_neg hi]at h
   have hjs:j<st:=by rw[←s4 row (al4 h)];exact(adD.1 hj).1
   have hil:i-rows.length<new.length:=(adD.1 h).1
   have h5:=Pg s4 h hj
   have hlt:(i-rows.length)*st+j<vals.length:=by rw[←s3.1];exact(adD.1 h5).1
   have hmul:i*st=rows.length*st+(i-rows.length)*st:=by rw[←acG];congr 1;omega
   rw[if_pos (by omega)]
   refine⟨vals[(i-rows.length)*st+j],?_,s3.2 _ x _ h5 (acK hlt)⟩
   rw[show co+i*st+j-(co+rows.length*st)=(i-rows.length)*st+j by omega]
   exact acK hlt
 ·rcases al9.1 hr with hr|hr
  ·exact k.isCell r hr
  ·exact s6 r hr
theorem ahF(H:HR w S ρ g){base:Nat}(hb:ρ base=.fresh){ts:Array TypeId}{t t1 ty:TypeId}(h0:ts[0]?=some t)(h1:ts[1]?=some t1)(hz:aX8 P t1)
 {s x:AV} {cs cx:Value} {d:Ku} (h:Lt P g base t s x=some d) (hs:VR w S ρ s cs) (hx:VR w S ρ x cx):
 ∃cv w' ρ',(Builtin.append_ ts ty #[cs,cx]).run P w=.ok cv w'∧VR w' S ρ' d.v cv∧HR w' S ρ' (Bg g d.es)∧Ip w w' S S ρ ρ'∧Zg (Kw d.es) w w' ρ ρ'∧aA d.es ρ ρ':=by
 unfold Lt at h
 simp only[acE]at h
 obtain⟨e,he,n,hn,by_,hby,z,hzt,⟨nfl,new,fs⟩,hsrc,h⟩:=h
 simp only at h
 have hu:P.underlying t=some (.slice e):=by
  unfold nJ at he
  split at he
  ·rename_i hu;simp at he;subst he;exact hu
  ·simp at he
 obtain⟨i,cz,hi,hiz,hov,hrun⟩:=aZ hzt
 obtain⟨i',hi',hb'⟩:=ajT hby
 rw[hi]at hi';cases hi'
 obtain⟨i',hi',hin⟩:=akW hn
 rw[hi]at hi';cases hi'
 obtain⟨vals,s1,s2,s3,s4,s5,s6⟩:=lT (P:=P) H hn hsrc hx
 have hvl:vals.length=new.length*n:=by rw[←s3.1,Gh s4]
 split at h
 ·simp at h
 ·rename_i hcnd
  obtain⟨hn0,hby7,hzn⟩:n≠0∧by_≤2 ^ 8∧(Am z).length=n:=by
   refine⟨fun h=>hcnd (.inl h),?_,?_⟩
   ·by_cases hh:by_≤2 ^ 8
    ·exact hh
    ·exact(hcnd (.inr (.inl (by omega)))).elim
   ·by_cases hh:(Am z).length=n
    ·exact hh
    ·exact(hcnd (.inr (.inr hh))).elim
  have hzs:cz.cells.size=n:=by
   have:=(Rw (w:=w) (S:=S) (ρ:=ρ) hov).cells.1;simp at this;omega
  split at h
  ·
   have hv0:vals=[]:=aoC (by rw[hvl];simp)
   subst hv0
   have fin:∀(ob:Option Addr) (l c:Nat),cs=.slice ob l c→l≤c→d=⟨s,[],fs⟩→∃cv w' ρ',(Builtin.append_ ts ty #[cs,cx]).run P w=.ok cv w'∧VR w' S ρ' d.v cv∧HR w' S ρ' (Bg g d.es)∧Ip w w' S S ρ ρ'∧Zg (Kw d.es) w w' ρ ρ'∧aA d.es ρ ρ':=by
    intro ob l c hcs hlc hd
    refine⟨cs,w,ρ,?_,by rw[hd];exact hs,by rw[hd];exact H,Ip.refl w S ρ,Zg.refl,by rw[hd];exact aA.refl⟩
    rw[hcs,kG h0 h1 hu hz hn (n:=0) s1 (by omega) (s2 w rfl)]
    cases ob<;>simp[storeCells]
   split at h
   ·simp at h;subst h;cases hs;exact fin _ _ _ rfl (aiK _) rfl
   ·simp at h;subst h
    cases hs with
    |slr a b c=>exact fin _ _ _ rfl b rfl
    |slrD a b=>exact fin _ _ _ rfl b rfl
   ·simp at h;subst h
    cases hs with
    |imm f a b c d e g k=>exact fin _ _ _ rfl b rfl
   ·simp at h
  ·
   rename_i hne
   split at h
   ·rename_i hsz
    simp at h;subst h
    cases hs
    have hnp:0<new.length:=by rcases asX new.length with h|h;(exact(hne (aoC h)).elim);exact h
    have hold:(Builtin.firstCells i.size 0 (.slice none 0 0)).run P w.drew=.ok #[] w.drew:=by simp[Builtin.firstCells]
    have hnew:(Builtin.firstCells i.size new.length cx).run P w.drew=.ok vals.toArray w.drew:=by rw[hin];exact s2 _ rfl
    have hr:=kD (ty:=ty) h0 h1 hu hz hi hiz (base:=none) (sLen:=0) (sCap:=0) s1 (by omega) (by omega) (by omega) hold hnew
    generalize hC:aaL w (0+new.length) 0 e=C at hr
    have hCge:new.length≤C:=by rw[←hC];unfold aaL;omega
    generalize hA:(#[]++vals.toArray++Builtin.zeroCells cz.cells (C-(0+new.length)):Array Value)=A at hr
    have hAs:A.size=C*n:=by
     rw[←hA]
     simp[jQ,hzs,hvl]
     rw[←acG];congr 1;omega
    have hsd:=Ip.drew w S ρ
    have hblk:Ih w.drew S ρ A 0 n nfl new:=Ih.ofRows (more:=(Builtin.zeroCells cz.cells (C-(0+new.length))).toList) s4 s5 s6 (s3.sim hsd) (by rw[←hA];simp)
    refine⟨_,_,ρ.put base (.pl w.heap.size 0 n A.size),hr,?_,?_,hsd.trans (Ip.alloc (w:=w.drew) hb H.drew.old _ _ _ _),Zg.alloc H.drew hb _ _ _,aA.alloc⟩
    ·have:=VR.slr (w:=w.drew.alloc (.cells A e)) (S:=S) (r:=0) (len:=new.length) (cap:=C) (a:=⟨w.heap.size,0,none⟩) (Ba.put_same ρ base (.pl w.heap.size 0 n A.size)) hCge (.inr ⟨by simp,by simp[hAs]⟩)
     simpa using this
    ·simp only[Bg,Df]
     exact H.drew.alloc hb hblk e
   ·simp at h
  ·
   rename_i st0 b r len hne
   split at h
   ·rename_i st fl wr rows hg
    split at h
    ·rename_i hc
     obtain⟨rfl,hrl,hsz⟩:=hc
     simp at h;subst h
     have hnp:0<new.length:=by rcases asX new.length with h|h;(exact(hne (aoC h)).elim);exact h
     have hs0:=hs
     cases hs with
     |slrD hρ _=>rw[H.dead b hρ]at hg;simp at hg
     | @slr _ _ _ _ cb co _ sz cap a hρ hle ha=>
       obtain⟨c,e',fz,fl',rows',k1,k2,k3,k4⟩:=H.at_ b cb co st0 sz hρ
       rcases k4 with⟨⟨wr',k4⟩,hS,hfz⟩|⟨k4,_⟩
       ·rw[hg]at k4
        simp at k4
        obtain⟨rfl,rfl,rfl,rfl⟩:=k4
        have hrle:r≤rows.length:=by omega
        have hdl:((rows.drop r).take len).length=len:=by simp;omega
        by_cases hfit:len+new.length≤cap
        ·
         rcases ha with ha|⟨rfl,hcap⟩
         ·omega
         have hin:co+r*st+(len+new.length)*st≤c.size:=by
          have h7:(len+new.length)*st≤cap*st:=aiH _ hfit
          rw[acG]at hcap;rw[k2];omega
         have hblk:=((k3.drop r hrle).take len).more s3 s4 s5 s6 (by rw[hdl];exact hin)
         rw[hdl]at hblk
         have hst:=bP (P:=P) (g:=cb) (o:=co+r*st+len*st) vals 0 c w k1 (by rw[hvl];rw[acG]at hin;omega) (fun j h5 h6=>hfz j (by rw[hvl]at h6;rw[acG]at hin;omega))
          (s3.allCell (aiC.2 fun x hx=>by obtain⟨row,h5,h6⟩:=List.mem_flatten.1 hx;exact s6 row h5 x h6))
         refine⟨.slice (some ⟨cb,co+r*st,none⟩) (len+new.length) cap,setB w cb (.cells (Uz c (co+r*st+len*st+0) vals) e' fz),(ρ.put b .dead).put base (.pl cb (co+r*st) st sz),?_,?_,?_,Ip.rebase hρ hS ⟨_,_,_,k1⟩ hb _ _ _ _,?_,aA.rebase hρ⟩
         ·rw[kG h0 h1 hu hz hn s1 hfit (s2 w rfl)]
          simp only[Ij]
          rw[hst];rfl
         ·refine .slr (Ba.put_same ..) hfit (.inr ⟨by simp,?_⟩)
          rw[acG]at hcap;simp;omega
         ·simp only[Bg,Df]
          exact H.rebase hρ hS hb (by simp[Vg,k2]) hfz ⟨_,_,_,k1⟩ hblk
         ·intro b' cb' co' st' sz' h' hn'
          obtain⟨q1,q2⟩:=Zg.setB H hρ (E:=Kw [.put b .dead,.new base (.live st (fl&&nfl) false ((rows.drop r).take len++new))]) ⟨_,al6 ..,rfl⟩ (.cells (Uz c (co+r*st+len*st+0) vals) e' fz) b' cb' co' st' sz' h' hn'
          refine⟨?_,q2⟩
          have hne1:b'≠base:=fun e=>by rw[e,hb]at h';cases h'
          have hne2:b'≠b:=fun e=>hn' ⟨_,al6 ..,by rw[e];rfl⟩
          rw[Ba.put_other _ _ hne1,Ba.put_other _ _ hne2];exact h'
        ·
         have hsr:Hg P g e (.slr st b r len)=some (fl,(rows.drop r).take len,[.blk b]):=by
          have:Jl g b r len=some (st,fl,(rows.drop r).take len):=by
           simp only[Jl,hg]
           rw[if_pos (by omega)]
          simp[Hg,this,hn]
         obtain⟨olds,t1',t2,t3,t4,t5,t6⟩:=lT (P:=P) H hn hsr hs0
         have hol:olds.length=len*st:=by rw[←t3.1,Gh t4,hdl]
         have hold:(Builtin.firstCells i.size len (.slice (some a) len cap)).run P w.drew=.ok olds.toArray w.drew:=by
          have:=t2 w.drew rfl
          rw[hdl]at this;rw[hin];exact this
         have hnew:(Builtin.firstCells i.size new.length cx).run P w.drew=.ok vals.toArray w.drew:=by rw[hin];exact s2 _ rfl
         have hr:=kD (ty:=ty) h0 h1 hu hz hi hiz (base:=some a) (sLen:=len) (sCap:=cap) s1 hfit (by omega) (by omega) hold hnew
         generalize hC:aaL w (len+new.length) cap e=C at hr
         have hCge:len+new.length≤C:=by rw[←hC];unfold aaL;omega
         generalize hA:(olds.toArray++vals.toArray++Builtin.zeroCells cz.cells (C-(len+new.length)):Array Value)=A at hr
         have hAs:A.size=C*st:=by
          rw[←hA]
          simp[jQ,hzs,hvl,hol]
          rw[←acG,←acG];congr 1;omega
         have hsd:=(Ip.drew w S ρ).trans (Ip.kill w.drew S ρ b)
         have hbk:(ρ.put b .dead) base=.fresh:=by
          rw[Ba.put_other _ _ (fun e=>by rw[e,hρ]at hb;cases hb)];exact hb
         have hblk:Ih w.drew S (ρ.put b .dead) A 0 st (fl&&nfl) ((rows.drop r).take len++new):=by
          refine Ih.ofRows (more:=(Builtin.zeroCells cz.cells (C-(len+new.length))).toList) (vs:=olds++vals) (fun x hx=>?_) (fun hf x hx=>?_) (fun x hx=>?_) ?_ (by rw[←hA];simp)
          ·rcases al9.1 hx with hx|hx
           ·exact t4 x hx
           ·exact s4 x hx
          ·simp at hf
           rcases al9.1 hx with hx|hx
           ·exact t5 hf.1 x hx
           ·exact s5 hf.2 x hx
          ·rcases al9.1 hx with hx|hx
           ·exact t6 x hx
           ·exact s6 x hx
          ·rw[List.flatten_append]
           exact(t3.append s3).sim hsd
         refine⟨_,_,(ρ.put b .dead).put base (.pl w.heap.size 0 st A.size),hr,?_,?_,hsd.trans (Ip.alloc (w:=w.drew) hbk H.drew.old _ _ _ _),?_,aA.rebase hρ⟩
         ·exact VR.slr (w:=w.drew.alloc (.cells A e)) (S:=S) (r:=0) (len:=len+new.length) (cap:=C) (a:=⟨w.heap.size,0,none⟩) (Ba.put_same (ρ.put b .dead) base (.pl w.heap.size 0 st A.size)) hCge (.inr ⟨by simp,by simp[hAs]⟩)
         ·simp only[Bg,Df]
          exact(H.drew.kill b).alloc hbk hblk e
         ·intro b' cb' co' st' sz' h' hn'
          refine⟨?_,Ef (w:=w.drew) (H.lt h')⟩
          have hne1:b'≠base:=fun e=>by rw[e,hb]at h';cases h'
          have hne2:b'≠b:=fun e=>hn' ⟨_,al6 ..,by rw[e];rfl⟩
          rw[Ba.put_other _ _ hne1,Ba.put_other _ _ hne2];exact h'
       ·rw[hg]at k4;simp at k4
    ·simp at h
   ·simp at h
  ·simp at h
end
end Go.Ev
