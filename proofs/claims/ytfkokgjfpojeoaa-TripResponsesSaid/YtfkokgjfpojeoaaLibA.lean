/- The evaluator and its soundness. -/
import GoSem.Dispatch
import GoSem.Core.Region
import GoSem.Machine.Frame
import Derived.Below
import Derived.CallsIn
import Derived.Orders
import Derived.Laws.Cells
import Derived.Laws.Rows
import Derived.Laws.World
import Derived.Laws.Append
import Derived.Laws.StructEq
import Derived.WideLaws
import Derived.ChangeKeysEq
import Derived.IntWalk
open Option renaming bind_eq_some_iff→acL,map_eq_some_iff→aqD
open Nat renaming add_mul→acR,mul_le_mul_right→aCF,le_refl→aC7,add_assoc→aLD,mod_lt→aLF,le_trans→aLH,mul_comm→aOW,eq_zero_or_pos→aOX,div_lt_iff_lt_mul→aQ7,div_add_mod→aRF
open List renaming getElem?_eq_getElem→acZ,getElem?_eq_some_iff→aAM,getElem?_drop→aAN,all_eq_true→aAP,range→aC6,getElem?_take→aEO,mem_of_getElem?→aE9,replicate→aG6,mem_cons_self→aHJ,mem_of_mem_take→aHM,mem_append→aIC,mem_of_mem_drop→aID,getElem?_eq_none→aKM,eq_nil_of_length_eq_zero→aLE,mem_replicate→aLG,getElem?_set→aLI,mem_cons_of_mem→aM9,getElem?_append→aOD,getElem_mem→aON,map_cons→aOZ,getElem?_range→aPA,mem_or_eq_of_mem_set→aPH,getElem?_cons_succ→aRG,length_cons→aR6,flatten_cons→aSU
open Array renaming getElem?_eq_some_iff→aAO,getElem?_toList→aER,range→aJZ,getElem?_setIfInBounds→aOY,ext_getElem?→aR1,eq_empty_of_size_eq_zero→aSY
open Bool renaming false_eq_true→aR5
set_option linter.unusedSimpArgs false
set_option linter.unusedVariables false
namespace Go.Ev
noncomputable section
inductive AV where
 |bool (b:Bool)
 |int (k:IntKind) (n:Int)
 |str (s:List UInt8)
 |nilp
 |ptr (b r o:Nat)
 |iptr (cells:List AV)
 |nils
 |imm (st:Nat) (fl:Bool) (rows:List (List AV))
 |slr (st b r len:Nat)
 |func (fn:Fn) (first captured:List AV)
 |nilf
 |iface (t:Nat) (v:AV)
 |nili
 |agg (cells:List AV)
 |tup (vs:List AV)
 |yl (b:Nat)
 |mapr (b:Nat)
 |itr (b:Nat)
 |nilm
 deriving Inhabited
inductive Yk where
 |ready
 |busy
 |done (c:Code)
 |map
 |itr
 deriving Inhabited
inductive CB where
 |live (st:Nat) (fl w:Bool) (rows:List (List AV))
 |frz (st:Nat) (fl:Bool) (rows:List (List AV))
 |dead
 |lp (ps:List Nat) (asg body:Code) (tmps:List AV) (st:Yk)
 deriving Inhabited
abbrev Aa:=List CB
abbrev HF:=Nat→Option CB
def hf(h:Aa):HF:=fun b=>h[b]?
inductive As where
 |new (b:Nat) (c:CB)
 |cells (b r o:Nat) (vs:List AV)
 |put (b:Nat) (c:CB)
inductive Ew where
 |cells (b o n:Nat)
 |blk (b:Nat)
 |all
def Bd:AV→List AV
 | .agg cs=>cs
 |v=>[v]
def AV.flat:AV→Bool
 | .bool _| .int _ _| .str _=>true
 |_=>false
def AV.isCell:AV→Bool
 | .agg _=>false
 | .tup _=>false
 |_=>true
def Da{α β:Type}(f:α→Option β):List α→Option (List β)
 | []=>some []
 |a::l=>(f a).bind fun b=>(Da f l).map fun bs=>b::bs
def al4:Value→Option AV
 | .bool b=>some (.bool b)
 | .int k n=>some (.int k n)
 | .string s=>some (.str s.data.toList)
 | .pointer none=>some .nilp
 | .slice none 0 0=>some .nils
 | .nilFunc=>some .nilf
 | .nilIface=>some .nili
 | .map none=>some .nilm
 |_=>none
def aHY:Value→Option AV
 | .agg cs=>(Da al4 cs.toList).map .agg
 | .tuple cs=>(Da al4 cs.toList).map .tup
 |v=>al4 v
structure St where
 tmps:List AV
 h:Aa
def Po(l:List AV)(i:Nat):AV:=List.rec (motive:=fun _=>Nat→AV) (fun _=>.tup []) (fun a _ ih n=>Nat.rec (motive:=fun _=>AV) a (fun m _=>ih m) n) l i
theorem atX:∀(l:List AV) (i:Nat),Po l i=(l[i]?).getD (.tup [])
 | [],_=>rfl
 |_::_,0=>rfl
 |_::l,i+1=>by rw[aRG,←atX l i];rfl
def beQ(l:List AV)(i:Nat)(v:AV):List AV:=List.rec (motive:=fun _=>Nat→List AV) (fun _=>[]) (fun a r ih n=>Nat.rec (motive:=fun _=>List AV) (v::r) (fun m _=>a::ih m) n) l i
theorem wB:∀(l:List AV) (i:Nat) (v:AV),beQ l i v=l.set i v
 | [],_,_=>rfl
 |_::_,0,_=>rfl
 |_::l,i+1,v=>by rw[List.set_cons_succ,←wB l i v];rfl
def Ar(tmps:List AV):Operand→Option AV
 | .tmp t=>some (Po tmps t)
 | .const v=>aHY v
 | .global _=>none
 | .func f=>some (.func (.func f) [] [])
def Et(tmps:List AV):List Operand→Option (List AV)
 | []=>some []
 |x::xs=>(Ar tmps x).bind fun v=>(Et tmps xs).map (v::·)
section types
variable (P:Program)
def aDV(t:TypeId):Option Bool:=
 match P.underlying t with
 |some (.struct _)|some (.array _ _)=>some true
 |some _=>some false
 |none=>none
def mV(t:TypeId):Option Nat:=(P.info? t).map (·.size)
def byT(t:TypeId):Option Nat:=(P.info? t).map (·.bytes)
def Lr(t:TypeId):Option AV:=((P.info? t).bind (·.zero)).bind aHY
def al2(t:TypeId):Option TypeId:=
 match P.underlying t with
 |some (.slice e)=>some e
 |_=>none
end types
def al5(g:HF)(b r:Nat):Option (List AV):=
 match g b with
 |some (.live _ _ _ rows)|some (.frz _ _ rows)=>rows[r]?
 |_=>none
def Ju(g:HF)(b r len:Nat):Option (Nat × Bool × List (List AV)):=
 match g b with
 |some (.live st fl _ rows)|some (.frz st fl rows)=>if r+len≤rows.length then some (st,fl,(rows.drop r).take len)else none
 |_=>none
def Gf(cs:List AV)(o:Nat)(vs:List AV):List AV:=cs.take o++(vs.take (cs.length-o)++cs.drop (o+vs.length))
def Xg(rows:List (List AV))(r o:Nat)(vs:List AV):List (List AV):=
 match rows[r]? with
 |some cs=>rows.set r (Gf cs o vs)
 |none=>rows
def cM(h:Aa):As→Aa
 | .new _ c=>h++[c]
 | .cells b r o vs=>
   match h[b]? with
   |some (.live st fl _ rows)=>h.set b (.live st (fl&&vs.all AV.flat) true (Xg rows r o vs))
   |_=>h
 | .put b c=>h.set b c
def Eh(h:Aa):List As→Aa
 | []=>h
 |e::es=>Eh (cM h e) es
structure Kx where
 v:AV
 es:List As:=[]
 fs:List Ew:=[]
def iG(P:Program)(g:HF)(t:TypeId)(p:AV):Option Kx:=
 (aDV P t).bind fun isA=>(mV P t).bind fun n=>
 match isA,p with
 |true,.iptr cs=>if n≤cs.length then some ⟨.agg (cs.take n),[],[]⟩else none
 |true,.ptr b r o=>(al5 g b r).bind fun cs=>if o+n≤cs.length then some ⟨.agg ((cs.drop o).take n),[],[.cells b o n]⟩else none
 |false,.iptr (c::_)=>some ⟨c,[],[]⟩
 |false,.ptr b r o=>(al5 g b r).bind fun cs=>(cs[o]?).map fun v=>⟨v,[],[.cells b o 1]⟩
 |_,_=>none
def pZ(P:Program)(g:HF)(t:TypeId)(p v:AV):Option Kx:=
 (mV P t).bind fun n=>
 match p with
 | .ptr b r o=>
   match g b with
   |some (.live _ _ _ rows)=>
    (rows[r]?).bind fun cs=>
      if(Bd v).length=n∧o+n≤cs.length∧(Bd v).all AV.isCell=true then some ⟨.tup [],[.cells b r o (Bd v)],[.cells b o n]⟩else none
   |_=>none
 |_=>none
def aCJ(base:Nat)(v:AV):Option Kx:=
 if(Bd v).all AV.isCell=true then some ⟨.ptr base 0 0,[.new base (.live (Bd v).length ((Bd v).all AV.flat) false [Bd v])],[]⟩else none
def Zj(Om:Nat→Option (Nat × Nat))(cells:List AV):List (Nat × AV)→Option (List AV)
 | []=>some cells
 |(i,v)::rest=>
  match Om i with
  |none=>none
  |some (off,size)=>
   if(Bd v).length=size∧off+size≤cells.length then Zj Om (Gf cells off (Bd v)) rest else none
def Zx(P:Program)(fs:List Field):List (Nat × Nat):=fs.map fun f=>(f.offset,P.cellsOf f.type)
def kB(P:Program)(t:TypeId)(parts:List (Nat × AV)):Option AV:=
 (Lr P t).bind fun z=>
 match P.underlying t with
 |some (.struct fs)=>if fs.toList.all (fun f=>(P.info? f.type).isSome)=true then(Zj (fun i=>(Zx P fs.toList)[i]?) (Bd z) parts).map .agg else none
 |some (.array _ e)=>(mV P e).bind fun s=>(Zj (fun i=>some (i*s,s)) (Bd z) parts).map .agg
 |_=>none
def bB(n:Nat):List (List AV)→List (Nat × AV)→Option (List (List AV))
 |rows,[]=>some rows
 |rows,(i,v)::rest=>if(Bd v).length=n∧i<rows.length then bB n (rows.set i (Bd v)) rest else none
def Eu(P:Program)(base:Nat)(t:TypeId)(len:Nat)(parts:List (Nat × AV)):Option Kx:=
 (al2 P t).bind fun e=>(mV P e).bind fun n=>(Lr P e).bind fun z=>
   if n=0∨(Bd z).length≠n∨2 ^ 24<len*n then none else
   (bB n (aG6 len (Bd z)) parts).bind fun rows=>
     if rows.all (·.all AV.isCell)=true then some ⟨.slr n base 0 len,[.new base (.live n ((Bd z).all AV.flat&&rows.all (·.all AV.flat)) false rows)],[]⟩else none
def Og(P:Program)(base:Nat)(t:TypeId)(len cap:AV):Option Kx:=
 (al2 P t).bind fun e=>(mV P e).bind fun n=>(byT P e).bind fun by_=>(Lr P e).bind fun z=>
 match len,cap with
 | .int .i64 l,.int .i64 c=>
   if 0≤l∧l≤c∧c≤2 ^ 40∧by_≤2 ^ 7∧n≠0∧(Bd z).length=n∧(Bd z).all AV.isCell=true then
    some ⟨.slr n base 0 l.toNat,[.new base (.live n ((Bd z).all AV.flat) false (aG6 l.toNat (Bd z)))],[]⟩
   else none
 |_,_=>none
def aO7(P:Program)(t:TypeId)(x:AV)(f:Nat):Option AV:=
 match P.underlying t,x with
 |some (.struct fs),.agg cs=>
  (fs[f]?).bind fun fd=>(aDV P fd.type).bind fun isA=>
    if isA then(mV P fd.type).map fun n=>.agg ((cs.drop fd.offset).take n)else cs[fd.offset]?
 |_,_=>none
def cP(P:Program)(t:TypeId)(x:AV)(f:Nat):Option AV:=
 match P.underlying t with
 |some (.struct fs)=>
  (fs[f]?).bind fun fd=>(mV P fd.type).bind fun n=>
    if n=0 then none else
    match x with
    | .ptr b r o=>some (.ptr b r (o+fd.offset))
    | .iptr cs=>if fd.offset+n≤cs.length then some (.iptr (cs.drop fd.offset))else none
    |_=>none
 |_=>none
def Yv(P:Program)(t:TypeId)(x i:AV):Option AV:=
 match P.underlying t,x,i with
 |some (.slice e),.slr st b r len,.int _ i=>if mV P e=some st∧0≤i∧i<len then some (.ptr b (r+i.toNat) 0)else none
 |some (.slice e),.imm st _ rows,.int _ i=>if mV P e=some st∧0≤i then(rows[i.toNat]?).map .iptr else none
 |some (.array len e),.ptr b r o,.int _ i=>(mV P e).bind fun n=>if 0≤i∧i<len∧n≠0 then some (.ptr b r (o+i.toNat*n))else none
 |some (.array len e),.iptr cs,.int _ i=>(mV P e).bind fun n=>if 0≤i∧i<len∧n≠0 then some (.iptr (cs.drop (i.toNat*n)))else none
 |_,_,_=>none
def jT(P:Program)(t:TypeId)(x i:AV):Option AV:=
 match P.underlying t,x,i with
 |some .string,.str s,.int _ i=>if 0≤i then(s[i.toNat]?).map fun b=>.int .u8 b.toNat else none
 |some (.array len e),.agg cs,.int _ i=>
  (aDV P e).bind fun isA=>(mV P e).bind fun n=>
    if 0≤i∧i<len then(if isA then some (.agg ((cs.drop (i.toNat*n)).take n))else cs[i.toNat*n]?)else none
 |_,_,_=>none
def aKK(P:Program)(t:TypeId)(x:AV):Option AV:=
 match P.underlying t,x with
 |some .string,.str s=>some (.int .i64 s.length)
 |some (.slice _),.nils=>some (.int .i64 0)
 |some (.slice _),.imm _ _ rows=>some (.int .i64 rows.length)
 |some (.slice _),.slr _ _ _ len=>some (.int .i64 len)
 |some (.array n _),_=>some (.int .i64 n)
 |_,_=>none
def Uc(y:Nat):Option AV→Nat→Option Nat
 |none,d=>some d
 |some (.int _ i),_=>if 0≤i∧i≤y then some i.toNat else none
 |_,_=>none
def aAQ(P:Program)(t:TypeId)(x:AV)(lo hi:Option AV):Option AV:=
 match P.underlying t,x with
 |some .string,.str s=>(Uc s.length hi s.length).bind fun h=>(Uc h lo 0).map fun l=>.str ((s.drop l).take (h-l))
 |some (.slice e),.nils=>(mV P e).bind fun _=>(Uc 0 hi 0).bind fun h=>(Uc h lo 0).map fun _=>.nils
 |some (.slice e),.imm st fl rows=>
  (mV P e).bind fun n=>if n=st then(Uc rows.length hi rows.length).bind fun h=>(Uc h lo 0).map fun l=>.imm st fl ((rows.drop l).take (h-l))else none
 |some (.slice e),.slr st b r len=>(mV P e).bind fun n=>if n=st then(Uc len hi len).bind fun h=>(Uc h lo 0).map fun l=>.slr st b (r+l) (h-l)else none
 |_,_=>none
def Hi(P:Program)(g:HF)(e:TypeId):AV→Option (Bool × List (List AV) × List Ew)
 | .nils=>some (true,[],[])
 | .imm st fl rows=>if mV P e=some st then some (fl,rows,[])else none
 | .slr _ b r len=>(Ju g b r len).bind fun(st,fl,rows)=>if mV P e=some st then some (fl,rows,[.blk b])else none
 | .str s=>match P.underlying e,mV P e with
   |some (.int .u8),some 1=>some (true,s.map fun b=>[.int .u8 b.toNat],[])
   |_,_=>none
 |_=>none
def Oc(P:Program)(g:HF)(base:Nat)(t:TypeId)(s x:AV):Option Kx:=
 (al2 P t).bind fun e=>(mV P e).bind fun n=>(byT P e).bind fun by_=>(Lr P e).bind fun z=>
 (Hi P g e x).bind fun(nfl,new,fs)=>
 if n=0∨2 ^ 8<by_∨(Bd z).length≠n then none else
 match s,new with
 |s,[]=>match s with
  | .nils| .slr _ _ _ _| .imm _ _ _=>some ⟨s,[],fs⟩
  |_=>none
 | .nils,new=>if new.length≤2 ^ 39 then some ⟨.slr n base 0 new.length,[.new base (.live n nfl false new)],fs⟩else none
 | .slr _ b r len,new=>
   match g b with
   |some (.live st fl _ rows)=>
    if st=n∧r+len≤rows.length∧len+new.length≤2 ^ 39 then
     some ⟨.slr st base 0 (len+new.length),[.put b .dead,.new base (.live st (fl&&nfl) false ((rows.drop r).take len++new))],.blk b::fs⟩
    else none
   |_=>none
 |_,_=>none
end
noncomputable section
def Je:Nat→HF→AV→Option AV
 |0,_,_=>none
 |d+1,g,v=>
  match v with
  | .slr _ b r len=>(Ju g b r len).bind fun(st,fl,rows)=>if fl then some (.imm st true rows)else(Da (Da (Je d g)) rows).map (.imm st false)
  | .agg cs=>(Da (Je d g) cs).map .agg
  | .tup _=>none
  | .iface t x=>(Je d g x).map (.iface t)
  | .ptr _ _ _=>none
  | .func fn [] []=>some (.func fn [] [])
  | .func _ _ _=>none
  | .yl _=>none
  | .mapr _=>none
  | .itr _=>none
  |v=>some v
def Of:Nat→HF→AV→Option AV
 |0,_,_=>none
 |d+1,g,v=>
  match v with
  | .slr _ _ _ _=>Je (d+1) g v
  | .agg cs=>(Da (Of d g) cs).map .agg
  | .iface t x=>(Of d g x).map (.iface t)
  |v=>some v
def Dk:Nat→HF→AV→List Nat
 |0,_,_=>[]
 |d+1,g,v=>
  match v with
  | .slr _ b r len=>b::match Ju g b r len with
    |some (_,fl,rows)=>if fl then []else rows.flatMap fun cs=>cs.flatMap (Dk d g)
    |none=>[]
  | .agg cs=>cs.flatMap (Dk d g)
  | .iface _ x=>Dk d g x
  |_=>[]
def Om(m:List Nat)(b:Nat):Nat × List Nat:=
 match m.idxOf? b with
 |some i=>(i,m)
 |none=>(m.length,m++[b])
def Fv:Nat→List Nat→AV→Option (AV × List Nat)
 |0,_,_=>none
 |d+1,m,v=>
  match v with
  | .ptr b r o=>some (.ptr (Om m b).1 r o,(Om m b).2)
  | .slr st b r len=>some (.slr st (Om m b).1 r len,(Om m b).2)
  | .agg cs=>(refL (Fv d) m cs).map fun(cs,m)=>(.agg cs,m)
  | .tup cs=>(refL (Fv d) m cs).map fun(cs,m)=>(.tup cs,m)
  | .iface t x=>(Fv d m x).map fun(x,m)=>(.iface t x,m)
  | .yl b=>some (.yl (Om m b).1,(Om m b).2)
  | .mapr b=>some (.mapr (Om m b).1,(Om m b).2)
  | .itr b=>some (.itr (Om m b).1,(Om m b).2)
  | .func fn a b=>(refL (Fv d) m a).bind fun(a,m)=>(refL (Fv d) m b).map fun(b,m)=>(.func fn a b,m)
  |v=>some (v,m)
 where
 refL (f:List Nat→AV→Option (AV × List Nat)):List Nat→List AV→Option (List AV × List Nat)
 |m,[]=>some ([],m)
 |m,v::vs=>(f m v).bind fun(v,m)=>(refL f m vs).map fun(vs,m)=>(v::vs,m)
def Rl:List Nat→List (List AV)→Option (List (List AV) × List Nat)
 |m,[]=>some ([],m)
 |m,cs::rs=>(Fv.refL (Fv 8) m cs).bind fun(cs,m)=>(Rl m rs).map fun(rs,m)=>(cs::rs,m)
def aiZ(m:List Nat):CB→Option (CB × List Nat)
 | .live st true w rows=>some (.live st true w rows,m)
 | .live st false w rows=>(Rl m rows).map fun(rows,m)=>(.live st false w rows,m)
 | .frz st true rows=>some (.frz st true rows,m)
 | .frz st false rows=>(Rl m rows).map fun(rows,m)=>(.frz st false rows,m)
 | .dead=>some (.dead,m)
 | .lp ps asg body tmps st=>(Fv.refL (Fv 8) m tmps).map fun(tmps,m)=>(.lp ps asg body tmps st,m)
def Rx:Nat→HF→Nat→List Nat→Option (List CB × List Nat)
 |0,_,_,_=>none
 |n+1,g,i,m=>
  match m[i]? with
  |none=>some ([],m)
  |some b=>(g b).bind fun c=>(aiZ m c).bind fun(c,m)=>(Rx n g (i+1) m).map fun(cs,m)=>(c::cs,m)
def Vw(g:HF)(m:List Nat)(vs:List AV):Option (List AV × List CB × List Nat):=
 (Fv.refL (Fv 8) m vs).bind fun(vs,m)=>(Rx 5000 g 0 m).map fun(cs,m)=>(vs,cs,m)
def Ft:Nat→(Nat→Nat)→AV→Option AV
 |0,_,_=>none
 |d+1,f,v=>
  match v with
  | .ptr b r o=>some (.ptr (f b) r o)
  | .slr st b r len=>some (.slr st (f b) r len)
  | .agg cs=>(Da (Ft d f) cs).map .agg
  | .tup cs=>(Da (Ft d f) cs).map .tup
  | .iface t x=>(Ft d f x).map (.iface t)
  | .func fn a b=>(Da (Ft d f) a).bind fun a=>(Da (Ft d f) b).map fun b=>.func fn a b
  | .yl b=>some (.yl (f b))
  | .mapr b=>some (.mapr (f b))
  | .itr b=>some (.itr (f b))
  |v=>some v
def Ny(f:Nat→Nat):CB→Option CB
 | .live st true w rows=>some (.live st true w rows)
 | .live st false w rows=>(Da (Da (Ft 8 f)) rows).map (.live st false w)
 | .frz st true rows=>some (.frz st true rows)
 | .frz st false rows=>(Da (Da (Ft 8 f)) rows).map (.frz st false)
 | .dead=>some .dead
 | .lp ps asg body tmps st=>(Da (Ft 8 f) tmps).map fun tmps=>.lp ps asg body tmps st
def hasImm:Nat→AV→Bool
 |0,_=>true
 |d+1,v=>
  match v with
  | .imm _ _ []=>false
  | .imm _ _ _=>true
  | .iptr _=>true
  | .agg cs=>cs.any (hasImm d)
  | .tup cs=>cs.any (hasImm d)
  | .iface _ x=>hasImm d x
  | .func _ a b=>a.any (hasImm d)||b.any (hasImm d)
  |_=>false
def CB.hasImm:CB→Bool
 | .live _ true _ _| .frz _ true _| .dead=>false
 | .live _ false _ rows| .frz _ false rows=>rows.any fun cs=>cs.any (Ev.hasImm 8)
 | .lp _ _ _ tmps _=>tmps.any (Ev.hasImm 8)
inductive Gw where
 |ret (v:AV)
 |pan (v:AV)
inductive Ex where
 |normal
 |exit (id:Nat)
 |ret
 |pan (v:AV)
inductive qE where
 |fn (f:Nat)
 |round
 |sh (f:Nat)
structure Hz where
 call:qE→List AV→Aa→Option (Gw × Aa)
 loop:Code→St→Option (Ex × St)
 md:Nat→Bool
def Gw.v:Gw→AV
 | .ret v=>v
 | .pan v=>v
def Gw.map(f:AV→AV):Gw→Gw
 | .ret v=>.ret (f v)
 | .pan v=>.pan (f v)
def Gu(g:HF):List Nat→List As
 | []=>[]
 |b::bs=>match g b with
  |some (.live st fl _ rows)=>.put b (.frz st fl rows)::Gu g bs
  |_=>Gu g bs
def AV.same:AV→AV→Bool
 | .bool a,.bool b=>a==b
 | .int k a,.int j b=>k==j&&a==b
 | .str a,.str b=>a==b
 |_,_=>false
def AV.sameKey:AV→AV→Bool
 | .agg xs,.agg ys=>xs.length==ys.length&&(xs.zip ys).all fun(x,y)=>x.same y
 |x,y=>x.same y
def AV.sameL:List AV→List AV→Bool
 | [],[]=>true
 |x::xs,y::ys=>x.sameKey y&&AV.sameL xs ys
 |_,_=>false
def CB.clean:CB→CB
 | .live st fl _ rows=>.live st fl false rows
 |c=>c
def CB.same:CB→CB→Bool
 | .live _ _ _ _,.live _ _ w _=> !w
 | .frz _ _ _,.frz _ _ _=>true
 | .dead,.dead=>true
 | .lp _ _ _ _ .ready,.lp _ _ _ _ .ready=>true
 | .lp _ _ _ _ .busy,.lp _ _ _ _ .busy=>true
 | .lp _ _ _ kvs .map,.lp _ _ _ kvs' .map=>AV.sameL kvs kvs'
 |_,_=>false
def CB.unw:CB→Bool
 | .live _ _ w _=> !w
 |_=>false
def CB.isLive:CB→Bool
 | .live _ _ _ _=>true
 | .lp _ _ _ _ _=>true
 |_=>false
def Nv(f:Nat→Nat):List Nat→List CB→List CB→Option (List As)
 |b::m,c₀::cs₀,c::cs=>
  bif c₀.same c then Nv f m cs₀ cs else
  bif c.unw|| !c₀.isLive then none else(Ny f c).bind fun c=>(Nv f m cs₀ cs).map (.put b c::·)
 | [],[],[]=>some []
 |_,_,_=>none
def Qe(f:Nat→Nat)(base:Nat):List CB→Option (List As)
 | []=>some []
 |c::cs=>(Ny f c).bind fun c=>(Qe f (base+1) cs).map (.new base c::·)
def As.hasImm:As→Bool
 | .new _ c=>c.hasImm
 | .cells _ _ _ _=>true
 | .put _ c=>c.hasImm
structure Wz where
 out:Gw
 es:List As
 fs:List Ew
def Jx(m:List Nat)(base:Nat):Nat→Nat:=fun i=>if i<m.length then m.getD i base else base+(i-m.length)
def Yu(g:HF)(base:Nat)(lent m:List Nat)(cs:List CB)(out:Gw)(h':Aa):Option Wz:=
 (Ft 8 (Jx m base) out.v).bind fun v=>
 (Nv (Jx m base) m cs (h'.take m.length)).bind fun ps=>
 (Qe (Jx m base) base (h'.drop m.length)).bind fun ns=>
   let fz:=if lent.isEmpty|| !(hasImm 8 v||(ps++ns).any As.hasImm)then []else Gu g lent
   some ⟨out.map fun _=>v,fz++ps++ns,(lent++m).map .blk⟩
def hOf(g:HF)(base:Nat):Option Aa:=Da g (aC6 base)
def Xw:Nat→List CB→List As
 |_,[]=>[]
 |i,c::cs=>.new i c::Xw (i+1) cs
def CB.mark:CB→CB
 | .live st fl _ rows=>.live st fl true rows
 |c=>c
def CB.quiet:CB→CB→Bool
 | .live _ _ _ _,.live _ _ w _=> !w
 |c₀,c=>c₀.same c
def Iw:Nat→Aa→Aa→Option (List As)
 |i,[],h'=>some (Xw i h')
 |_,_::_,[]=>none
 |i,c₀::h,c::h'=>bif c₀.quiet c then Iw (i+1) h h' else bif c₀.isLive then(Iw (i+1) h h').map (.put i c.mark::·)else none
def Ru(O:Hz)(g:HF)(base:Nat)(f:qE)(args:List AV):Option Wz:=
 (hOf g base).bind fun h=>(O.call f args (h.map CB.clean)).bind fun(out,h')=>(Iw 0 h h').map fun es=>⟨out,es,[.all]⟩
def vW(f:Nat):List AV→qE
 | .ptr _ _ _::_=>.sh f
 | .yl _::_=>.sh f
 | .slr _ _ _ _::_=>.sh f
 | .int _ _::_=>.sh f
 | .agg _::_=>.sh f
 |_=>.fn f
def Gg(O:Hz)(g:HF)(base:Nat)(f:qE)(args:List AV):Option Wz:=
 (Da (Of 12 g) args).bind fun vs=>
 (Vw g [] vs).bind fun(vs,cs,m)=>
 if(args.flatMap (Dk 12 g)).any (m.contains ·)then none else
 (O.call f vs (cs.map CB.clean)).bind fun(out,h')=>Yu g base (args.flatMap (Dk 12 g)) m cs out h'
def acV:List AV→Bool
 | .yl _::_=>true
 |_=>false
def Jd(O:Hz)(g:HF)(base:Nat)(f:qE)(args:List AV):Option Wz:=
 match f with
 | .fn f=>Gg O g base (.fn f) args
 | .round=>Ru O g base .round args
 | .sh f=>bif acV args||O.md f then Ru O g base (.sh f) args else Gg O g base (.fn f) args
def Nl(op:BinOp)(k:IntKind)(x y:Int):Option AV:=
 match op with
 | .add=>some (.int k (k.wrap (x+y)))
 | .sub=>some (.int k (k.wrap (x-y)))
 | .mul=>some (.int k (k.wrap (x*y)))
 | .quo=>if y=0 then none else some (.int k (k.wrap (x.tdiv y)))
 | .rem=>if y=0 then none else some (.int k (x.tmod y))
 | .and=>some (.int k (k.wrap (BitVec.ofInt k.bits x&&&BitVec.ofInt k.bits y).toNat))
 | .or=>some (.int k (k.wrap (BitVec.ofInt k.bits x|||BitVec.ofInt k.bits y).toNat))
 | .xor=>some (.int k (k.wrap (BitVec.ofInt k.bits x^^^BitVec.ofInt k.bits y).toNat))
 | .eql=>some (.bool (x==y))
 | .neq=>some (.bool (x !=y))
 | .lss=>some (.bool (x<y))
 | .leq=>some (.bool (x≤y))
 | .gtr=>some (.bool (x>y))
 | .geq=>some (.bool (x≥y))
 |_=>none
def aK3(op:BinOp)(x y:List UInt8):Option AV:=
 match op with
 | .add=>if x.length+y.length<2 ^ 62 then some (.str (x++y))else none
 | .eql=>some (.bool (x==y))
 | .neq=>some (.bool !(x==y))
 | .lss=>some (.bool (Op.bytesLess x y))
 | .leq=>some (.bool (Op.bytesLess x y||x==y))
 | .gtr=>some (.bool !(Op.bytesLess x y||x==y))
 | .geq=>some (.bool !(Op.bytesLess x y))
 |_=>none
def aEq(P:Program):Nat→TypeId→AV→AV→Option Bool
 |0,_,_,_=>none
 |d+1,t,x,y=>
  match P.underlying t,x,y with
  |some .bool,.bool a,.bool b=>some (a==b)
  |some (.int _),.int k a,.int k' b=>if k=k' then some (a==b)else none
  |some .string,.str a,.str b=>some (a==b)
  |some (.struct fs),.agg xs,.agg ys=>if P.stoodInHeld t then none else eqL (aEq P d) xs ys fs.toList
  |some (.array n e),.agg xs,.agg ys=>(mV P e).bind fun sz=>eqA (aEq P d e) e sz xs ys (aC6 n)
  |some (.slice _),.nils,.nils=>some true
  |some (.slice _),.nils,.imm _ _ _|some (.slice _),.nils,.slr _ _ _ _=>some false
  |some (.slice _),.imm _ _ _,.nils|some (.slice _),.slr _ _ _ _,.nils=>some false
  |some (.pointer _),.nilp,.nilp=>some true
  |some (.pointer _),.nilp,.ptr _ _ _|some (.pointer _),.ptr _ _ _,.nilp=>some false
  |some (.func _ _ _),.nilf,.nilf=>some true
  |some (.func _ _ _),.nilf,.func _ _ _|some (.func _ _ _),.func _ _ _,.nilf=>some false
  |_,_,_=>none
 where
 partOf (P:Program) (t:TypeId) (cs:List AV) (off:Nat):Option AV:=
  (aDV P t).bind fun isA=>if isA then(mV P t).map fun n=>.agg ((cs.drop off).take n)else cs[off]?
 eqL (eq:TypeId→AV→AV→Option Bool) (xs ys:List AV):List Field→Option Bool
 | []=>some true
 |f::fs=>
  if f.name= "_" then eqL eq xs ys fs else
  (partOf P f.type xs f.offset).bind fun a=>(partOf P f.type ys f.offset).bind fun b=>(eq f.type a b).bind fun r=>
    if r then eqL eq xs ys fs else some false
 eqA (eq:AV→AV→Option Bool) (e:TypeId) (sz:Nat) (xs ys:List AV):List Nat→Option Bool
 | []=>some true
 |i::is=>
  (partOf P e xs (i*sz)).bind fun a=>(partOf P e ys (i*sz)).bind fun b=>(eq a b).bind fun r=>
    if r then eqA eq e sz xs ys is else some false
def Qm(P:Program)(op:BinOp)(t:TypeId)(x y:AV):Option AV:=
 match op,x,y with
 | .shl,.int k a,.int _ b=>if b<0 then none else some (.int k (k.wrap (a*2 ^ (min b.toNat k.bits))))
 | .shr,.int k a,.int _ b=>if b<0 then none else some (.int k (a.fdiv (2 ^ (min b.toNat k.bits))))
 |op,.int k a,.int k' b=>if k=k' then Nl op k a b else none
 |op,.str a,.str b=>aK3 op a b
 | .eql,.agg a,.agg b=>if P.eqGuardType P.depth t then none else(aEq P 12 t (.agg a) (.agg b)).map .bool
 | .neq,.agg a,.agg b=>if P.eqGuardType P.depth t then none else(aEq P 12 t (.agg a) (.agg b)).map fun r=>.bool !r
 | .eql,x,y=>(aEq P 12 t x y).map .bool
 | .neq,x,y=>(aEq P 12 t x y).map fun r=>.bool !r
 |_,_,_=>none
def aUn(op:UnOp)(x:AV):Option AV:=
 match op,x with
 | .neg,.int k n=>some (.int k (k.wrap (0-n)))
 | .not,.bool b=>some (.bool !b)
 |_,_=>none
def aFE:AV→AV→Option AV
 | .int k x,.int _ y=>some (.int k (if y<x then y else x))
 |_,_=>none
def aF7:AV→AV→Option AV
 | .int k x,.int _ y=>some (.int k (if y>x then y else x))
 |_,_=>none
def a1E(P:Program)(src dst:TypeId)(x:AV):Option AV:=
 match P.underlying src,P.underlying dst,x with
 |some (.int _),some (.int k),.int _ n=>some (.int k (k.wrap n))
 |some .string,some .string,.str s=>some (.str s)
 |_,_,_=>none
def oU:List (Nat × Operand)→List AV→List (Nat × AV)
 |(i,_)::ps,v::vs=>(i,v)::oU ps vs
 |_,_=>[]
def aCA(tmps:List AV):Option Operand→Option (Option AV)
 |none=>some none
 |some x=>(Ar tmps x).map some
def Na(x:Option AV):Option Kx:=x.map fun v=>⟨v,[],[]⟩
def ae8(P:Program)(kt:TypeId)(k:AV):List AV→Nat→Option (Option (Nat × AV))
 | [],_=>some none
 | [_],_=>none
 |a::v::l,i=>(aEq P 12 kt k a).bind fun r=>if r then some (some (i,v))else ae8 P kt k l (i+1)
def aDR(P:Program):Nat→TypeId→AV→Bool
 |0,_,_=>false
 |d+1,t,k=>
  match P.underlying t,k with
  |some .bool,k=>k.flat
  |some (.int _),k=>k.flat
  |some .string,k=>k.flat
  |some (.struct fs),.agg cs=>fs.toList.all fun f=>((aEq.partOf P f.type cs f.offset).map (aDR P d f.type)).getD false
  |some (.array n e),.agg cs=>((mV P e).map fun sz=>(aC6 n).all fun i=>((aEq.partOf P e cs (i*sz)).map (aDR P d e)).getD false).getD false
  |_,_=>false
def aK7(P:Program)(t:TypeId)(k:AV):Bool:=
 aDR P 5 t k&&match k with
  | .agg cs=>cs.all AV.flat
  |_=>true
def afH(g:HF)(b:Nat):Option (List AV):=
 match g b with
 |some (.lp [] .skip .skip kvs .map)=>some kvs
 |_=>none
def Wq(P:Program)(g:HF)(t:TypeId)(m k:AV)(ok:Bool):Option Kx:=
 match P.underlying t,m with
 |some (.map kt vt),.mapr b=>if aK7 P kt k then(afH g b).bind fun kvs=>(ae8 P kt k kvs 0).bind fun r=>(Lr P vt).bind fun z=>
   let v:=match r with
    |some (_,v)=>v
    |none=>z
   some ⟨bif ok then .tup [v,.bool r.isSome]else v,[],[.blk b]⟩
  else none
 |_,_=>none
def Rh(P:Program)(g:HF)(t:TypeId)(m k v:AV):Option Kx:=
 match P.underlying t,m with
 |some (.map kt _),.mapr b=>if aK7 P kt k then(afH g b).bind fun kvs=>(ae8 P kt k kvs 0).bind fun r=>
   match r with
   |some (i,_)=>if((kvs[2*i]?).map k.sameKey).getD false then some ⟨.tup [],[.put b (.lp [] .skip .skip (kvs.set (2*i+1) v) .map)],[.blk b]⟩else none
   |none=>some ⟨.tup [],[.put b (.lp [] .skip .skip (kvs++[k,v]) .map)],[.blk b]⟩
  else none
 |_,_=>none
def eQ:List (List AV)→Option (List UInt8)
 | []=>some []
 | [.int .u8 n]::l=>(eQ l).map (UInt8.ofNat n.toNat::·)
 |_=>none
def uS(P:Program)(g:HF)(s d:TypeId)(x:AV):Option Kx:=
 match P.underlying s,P.underlying d with
 |some (.slice e),some .string=>match P.underlying e with
  |some (.int .u8)=>match x with
   | .str _=>none
   |x=>(Hi P g e x).bind fun(_,rows,fs)=>(eQ rows).map fun l=>⟨.str l,[],fs⟩
  |_=>none
 |_,_=>purely' (a1E P s d x)
 where purely' (x:Option AV):Option Kx:=x.map fun v=>⟨v,[],[]⟩
def aGS(s:List UInt8)(p:Nat):Option (Nat × Nat):=(s[p]?).map fun b=>if b.toNat<128 then(b.toNat,1)else Utf8.decode ⟨s.toArray⟩ p
def aFX(P:Program)(base:Nat)(t:TypeId)(x:AV):Option Kx:=
 match P.underlying t,x with
 |some .string,.str s=>some ⟨.itr base,[.new base (.lp [] .skip .skip [.str s,.int .i64 0] .itr)],[]⟩
 |_,_=>none
def aC0(g:HF)(x:AV):Option Kx:=
 match x with
 | .itr b=>match g b with
   |some (.lp [] .skip .skip [.str s,.int .i64 p] .itr)=>match aGS s p.toNat with
    |some (c,n)=>some ⟨.tup [.bool true,.int .i64 p.toNat,.int .i32 c],[.put b (.lp [] .skip .skip [.str s,.int .i64 (p.toNat+n:Nat)] .itr)],[.blk b]⟩
    |none=>some ⟨.tup [.bool false],[],[.blk b]⟩
   |_=>none
 |_=>none
def exec(P:Program)(g:HF)(base:Nat)(tmps:List AV)(o:Op):Option Kx:=
 match o with
 | .move x| .assign x=>Na (Ar tmps x)
 | .pick c a b=>(Ar tmps c).bind fun c=>(Ar tmps a).bind fun a=>(Ar tmps b).bind fun b=>
    match c with
    | .bool r=>some ⟨bif r then a else b,[],[]⟩
    |_=>none
 | .alloc t=>(Lr P t).bind fun z=>aCJ base z
 | .box _ x=>(Ar tmps x).bind fun v=>aCJ base v
 | .build t ps=>(Et tmps (ps.toList.map (·.2))).bind fun vs=>Na (kB P t (oU ps.toList vs))
 | .buildSlice t len ps=>(Et tmps (ps.toList.map (·.2))).bind fun vs=>Eu P base t len (oU ps.toList vs)
 | .load t a=>(Ar tmps a).bind fun p=>iG P g t p
 | .store t a x=>(Ar tmps a).bind fun p=>(Ar tmps x).bind fun v=>pZ P g t p v
 | .nilCheck x=>(Ar tmps x).bind fun v=>
    match v with
    | .ptr _ _ _| .iptr _| .func (.func _) _ _=>some ⟨v,[],[]⟩
    |_=>none
 | .binOp op t x y _=>(Ar tmps x).bind fun a=>(Ar tmps y).bind fun b=>Na (Qm P op t a b)
 | .unOp op _ x=>(Ar tmps x).bind fun a=>Na (aUn op a)
 | .convert s d x=>(Ar tmps x).bind fun a=>uS P g s d a
 | .makeInterface t x=>(Ar tmps x).bind fun a=>match P.underlying t with
    |some (.interface _)=>none
    |some _=>some ⟨.iface t a,[],[]⟩
    |none=>none
 | .makeFunc (.func f) a b=>(Et tmps a.toList).bind fun a=>(Et tmps b.toList).bind fun b=>some ⟨.func (.func f) a b,[],[]⟩
 | .range t x=>(Ar tmps x).bind fun x=>aFX P base t x
 | .next x true=>(Ar tmps x).bind fun x=>aC0 g x
 | .makeMap _ none=>some ⟨.mapr base,[.new base (.lp [] .skip .skip [] .map)],[]⟩
 | .lookup t m k ok=>(Ar tmps m).bind fun m=>(Ar tmps k).bind fun k=>Wq P g t m k ok
 | .mapUpdate t m k v=>(Ar tmps m).bind fun m=>(Ar tmps k).bind fun k=>(Ar tmps v).bind fun v=>Rh P g t m k v
 | .insert t m k v=>(Ar tmps m).bind fun m=>(Ar tmps k).bind fun k=>(Ar tmps v).bind fun v=>Rh P g t m k v
 | .makeSlice t l c=>(Ar tmps l).bind fun l=>(Ar tmps c).bind fun c=>Og P base t l c
 | .slice t x lo hi none=>(Ar tmps x).bind fun x=>(aCA tmps lo).bind fun lo=>(aCA tmps hi).bind fun hi=>Na (aAQ P t x lo hi)
 | .fieldAddr t x f=>(Ar tmps x).bind fun x=>Na (cP P t x f)
 | .field t x f=>(Ar tmps x).bind fun x=>Na (aO7 P t x f)
 | .indexAddr t x i=>(Ar tmps x).bind fun x=>(Ar tmps i).bind fun i=>Na (Yv P t x i)
 | .index t x i=>(Ar tmps x).bind fun x=>(Ar tmps i).bind fun i=>Na (jT P t x i)
 | .extract x i=>(Ar tmps x).bind fun x=>match x with
    | .tup vs=>Na vs[i]?
    |_=>none
 | .call ⟨.builtin b,args,ts⟩=>(Et tmps args.toList).bind fun vs=>
    match b,vs with
    | .len,[x]=>(ts[0]?).bind fun t=>Na (aKK P t x)
    | .append,[s,x]=>(ts[0]?).bind fun t=>(ts[1]?).bind fun t1=>match P.underlying t1 with
      |some (.slice _)|some .string=>Oc P g base t s x
      |_=>none
    | .min,[x,y]=>Na (aFE x y)
    | .min,[x,y,z]=>Na ((aFE x y).bind fun a=>aFE a z)
    | .max,[x,y]=>Na (aF7 x y)
    | .max,[x,y,z]=>Na ((aF7 x y).bind fun a=>aF7 a z)
    |_,_=>none
 |_=>none
def asX(P:Program)(t:TypeId)(name:String):Option FuncId:=
 (P.info? t).bind fun i=>(i.methods.find? (·.name==name)).bind fun m=>match m.path.toList,m.func,P.underlying t with
   | [],some (f,true),some (.pointer _)=>some f
   |_,_,_=>none
def callee(P:Program)(tmps:List AV)(c:Call):Option (qE × List AV):=
 match c.callee with
 | .value f=>(Ar tmps f).bind fun fv=>(Et tmps c.args.toList).bind fun vs=>
    match fv with
    | .func (.func f) a b=>some (vW f (a++vs++b),a++vs++b)
    | .yl b=>some (.round,vs++[.yl b])
    |_=>none
 | .invoke r name=>(Ar tmps r).bind fun rv=>(Et tmps c.args.toList).bind fun vs=>
    match rv with
    | .iface t v=>(asX P t name).map fun f=>(vW f (v::vs),v::vs)
    |_=>none
 |_=>none
end
noncomputable section
abbrev R:=Option (Ex × St)
def a6J{α:Type}(b:Bool)(k:Bool→α):α:=
 match b with
 |true=>k true
 |false=>k false
def put(tmps:List AV)(d:Option Nat)(v:AV):List AV:=
 match d with
 |some d=>beQ tmps d v
 |none=>tmps
def Jn(ops:List Oper)(tmps:List AV)(o:Oper):Option Bool:=
 match o.guard with
 |none=>some true
 |some (j,want)=>
  match(ops[j]?).bind (·.dst)with
  |none=>none
  |some d=>
   match Po tmps d with
   | .bool b=>some (b==want)
   | .tup []=>some false
   |_=>none
def uL(ops:List Oper):List Nat:=ops.filterMap fun o=>o.guard.map (·.1)
def aRL(isG:Bool)(v:AV)(k:AV→R):R:=
 match isG with
 |false=>k v
 |true=>
  match v with
  | .bool b=>a6J b fun b=>k (.bool b)
  |v=>k v
inductive a7F where
 |call (c:Call)
 |panic (x:Operand)
 |other
def Kq:Op→a7F
 | .call ⟨.builtin _,_,_⟩=>.other
 | .call c=>.call c
 | .panic x=>.panic x
 |_=>.other
abbrev Log:=List (List As × List Ew)
def Jp(O:Hz)(P:Program)(ops:List Oper)(gs:List Nat):List Oper→Nat→St→Log→(St→Log→R)→(AV→St→R)→R
 | [],_,s,log,k,_=>k s log
 |o::rest,i,s,log,k,kp=>
  match Jn ops s.tmps o with
  |none=>none
  |some false=>Jp O P ops gs rest (i+1) ⟨put s.tmps o.dst (.tup []),s.h⟩ (log++[([],[])]) k kp
  |some true=>
   match Kq o.op with
   | .call c=>
     (callee P s.tmps c).bind fun(f,args)=>(Jd O (hf s.h) s.h.length f args).bind fun d=>
       match d.out with
       | .ret v=>aRL (gs.contains i) v fun v=>Jp O P ops gs rest (i+1) ⟨put s.tmps o.dst v,Eh s.h d.es⟩ (log++[(d.es,d.fs)]) k kp
       | .pan v=>kp v ⟨s.tmps,Eh s.h d.es⟩
   | .panic x=>(Ar s.tmps x).bind fun v=>match v with
     | .iface _ _=>kp v s
     |_=>none
   | .other=>
     (exec P (hf s.h) s.h.length s.tmps o.op).bind fun d=>
       aRL (gs.contains i) d.v fun v=>Jp O P ops gs rest (i+1) ⟨put s.tmps o.dst v,Eh s.h d.es⟩ (log++[(d.es,d.fs)]) k kp
def Ew.meets:Ew→Ew→Bool
 | .cells b o n,.cells b' o' n'=>b==b'&&decide (o<o'+n')&&decide (o'<o+n)
 | .all,_=>true
 |_,.all=>true
 | .cells b _ _,.blk b'=>b==b'
 | .blk b,.cells b' _ _=>b==b'
 | .blk b,.blk b'=>b==b'
def As.foot:As→Ew
 | .new b _=>.blk b
 | .cells b _ o vs=>.cells b o vs.length
 | .put b _=>.blk b
def Xt(x y:List As × List Ew):Bool:=
 let wx:=x.1.map As.foot
 let wy:=y.1.map As.foot
 wx.any (fun f=>(wy++y.2).any f.meets)||wy.any (fun f=>x.2.any f.meets)
def aC3(ops:List Oper):List (Nat × Nat):=
 let b:=Region.before ops.toArray
 (aC6 ops.length).flatMap fun j=>(aC6 j).filterMap fun i=>if(b.getD j 0).testBit i then none else some (i,j)
def ax7(ops:List Oper)(o:Oper):List Nat:=
 (o.op.operands.toList.filterMap fun| .tmp t=>some t|_=>none)++
 (match o.guard with
  |some (g,_)=>((ops[g]?).bind (·.dst)).toList
  |none=>[])
def aBP(ops:List Oper)(x y:Oper):Bool:=
 (match x.dst with
  |some d=> !(ax7 ops y).contains d&& !(y.dst==some d)
  |none=>true)&&
 (match y.dst with
  |some d=> !(ax7 ops x).contains d
  |none=>true)
def aTR(ops:List Oper):Bool:=
 (aC6 ops.length).all fun i=>match ops[i]? with
   |some o=>o.after.all fun e=> !Region.binds .any e||decide (e.on<i)
   |none=>false
def dL(ops:List Oper):Bool:=
 aTR ops&&(aC3 ops).all fun(i,j)=>match ops[i]?,ops[j]? with
  |some x,some y=>aBP ops x y
  |_,_=>false
def It(ops:List Oper)(log:Log):Bool:=
 (aC3 ops).all fun(i,j)=>match log[i]?,log[j]? with
   |some x,some y=> !Xt x y
   |_,_=>false
def Oh(b:Bool)(k:R):R:=
 match b with
 |true=>k
 |false=>none
inductive Br where
 |code (c:Code)
 |blk (id:Nat)
def Fj(ev:Code→List Br→St→R):List Br→Ex→St→R
 | [],e,s=>some (e,s)
 | .code c::k,.normal,s=>ev c k s
 | .code _::k,e,s=>Fj ev k e s
 | .blk id::k,.exit i,s=>bif i==id then Fj ev k .normal s else Fj ev k (.exit i) s
 | .blk _::k,e,s=>Fj ev k e s
def aRH(v:Option AV)(k:Bool→R):R:=
 match v with
 |some (.bool b)=>a6J b k
 |_=>none
def adS(x:R)(k:Ex→St→R):R:=
 match x with
 |some (e,s)=>k e s
 |none=>none
def Fp(O:Hz)(P:Program):Nat→Code→List Br→St→R
 |0,_,_,_=>none
 |n+1,c,k,s=>
  match c with
  | .skip=>Fj (Fp O P n) k .normal s
  | .label _=>Fj (Fp O P n) k .normal s
  | .region _ ops draw=>
    match draw with
    |false=>Jp O P ops.toList (uL ops.toList) ops.toList 0 s [] (fun s _=>Fj (Fp O P n) k .normal s) (fun v s=>Fj (Fp O P n) k (.pan v) s)
    |true=>Oh (dL ops.toList) (Jp O P ops.toList (uL ops.toList) ops.toList 0 s [] (fun s log=>Oh (It ops.toList log) (Fj (Fp O P n) k .normal s)) (fun _ _=>none))
  | .seq a b=>Fp O P n a (.code b::k) s
  | .cond c a b=>aRH (Ar s.tmps c) fun t=>match t with
    |true=>Fp O P n a k s
    |false=>Fp O P n b k s
  | .block id c=>Fp O P n c (.blk id::k) s
  | .scope c=>Fp O P n c k s
  | .loop c=>adS (O.loop c s) fun e s=>Fj (Fp O P n) k e s
  | .exit id=>Fj (Fp O P n) k (.exit id) s
  | .ret=>Fj (Fp O P n) k .ret s
  | .rangeFunc f ps asg body=>(Ar s.tmps f).bind fun fv=>match fv with
    | .func (.func g) a b=>
      let h1:=s.h++[.lp ps.toList asg body s.tmps .ready]
      (Jd O (hf h1) h1.length (vW g (a++[.yl s.h.length]++b)) (a++[.yl s.h.length]++b)).bind fun d=>match d.out with
      | .ret _=>
        let h2:=Eh h1 d.es
        match h2[s.h.length]? with
        |some (.lp _ _ _ _ .ready)=>Fj (Fp O P n) k .normal ⟨s.tmps,h2.set s.h.length .dead⟩
        |some (.lp _ _ _ _ (.done .ret))=>Fj (Fp O P n) k .ret ⟨s.tmps,h2.set s.h.length .dead⟩
        |some (.lp _ _ _ _ (.done (.exit i)))=>Fj (Fp O P n) k (.exit i) ⟨s.tmps,h2.set s.h.length .dead⟩
        |_=>none
      | .pan _=>none
    |_=>none
  |_=>none
def qI(P:Program)(s:St):List ResultVar→Option (List AV)
 | []=>some []
 | .tmp t::rs=>(qI P s rs).map fun vs=>Po s.tmps t::vs
 | .cell a t::rs=>(iG P (hf s.h) t (Po s.tmps a)).bind fun d=>(qI P s rs).map fun vs=>d.v::vs
def lW:List AV→AV
 | [v]=>v
 |vs=>.tup vs
def jR(k:Nat)(v:AV)(h:Aa):Option (AV × Aa):=
 (Vw (hf h) (aC6 k) [v]).bind fun(vs,cs,_)=>match vs with
   | [v]=>some (v,cs)
   |_=>none
def Wu:Nat:=5000
def evF(O:Hz)(P:Program)(f:Nat)(args:List AV)(h:Aa):Option (Gw × Aa):=
 match P.funcs[f]? with
 |none=>none
 |some fn=>
  match fn.body with
  |none=>none
  |some c=>
   (Fp O P Wu c [] ⟨args++aG6 (fn.ntmps-args.length) (.tup []),h⟩).bind fun(e,s)=>
     match e with
     | .normal| .ret=>(qI P s fn.results.toList).bind fun vs=>(jR h.length (lW vs) s.h).map fun(v,h)=>(.ret v,h)
     | .pan v=>(jR h.length v s.h).map fun(v,h)=>(.pan v,h)
     | .exit _=>none
def evS(O:Hz)(P:Program)(f:Nat)(args:List AV)(h:Aa):Option (Gw × Aa):=
 match P.funcs[f]? with
 |none=>none
 |some fn=>
  match fn.body with
  |none=>none
  |some c=>
   (Fp O P Wu c [] ⟨args++aG6 (fn.ntmps-args.length) (.tup []),h⟩).bind fun(e,s)=>
     match e with
     | .normal| .ret=>(qI P s fn.results.toList).map fun vs=>(.ret (lW vs),s.h)
     | .pan v=>some (.pan v,s.h)
     | .exit _=>none
def kH:List AV→List Nat→List AV→List AV
 |tmps,p::ps,v::vs=>kH (tmps.set p v) ps vs
 |tmps,_,_=>tmps
def iC:Ex→Option (Bool × Yk)
 | .normal=>some (true,.ready)
 | .ret=>some (false,.done .ret)
 | .exit i=>some (false,.done (.exit i))
 | .pan _=>none
def jH(h:Aa)(b:Nat)(ok:Yk→Bool)(st:Yk):Option Aa:=
 match h[b]? with
 |some (.lp ps asg body tmps st')=>if ok st' then some (h.set b (.lp ps asg body tmps st))else none
 |_=>none
def Yk.isReady:Yk→Bool
 | .ready=>true
 |_=>false
def Yk.isBusy:Yk→Bool
 | .busy=>true
 |_=>false
def aY(O:Hz)(P:Program)(args:List AV)(h:Aa):Option (Gw × Aa):=
 match args.reverse with
 | .yl b::vs=>
   match h[b]? with
   |some (.lp ps asg body tmps _)=>
    if ps.length=vs.length then
     (Fp O P Wu asg [] ⟨kH tmps ps vs.reverse,h⟩).bind fun(e,s)=>match e with
       | .normal=>(jH s.h b Yk.isReady .busy).bind fun h1=>
         (Fp O P Wu body [] ⟨s.tmps,h1⟩).bind fun(e,s)=>(iC e).bind fun(r,st)=>(jH s.h b Yk.isBusy st).bind fun h2=>
           some (.ret (.bool r),h2)
       |_=>none
    else none
   |_=>none
 |_=>none
structure Pz where
 at_:Nat→Option (List AV→Aa→Option (Gw × Aa))
 md:Nat→Bool
 sh:Nat→Option (List AV→Aa→Option (Gw × Aa)):=fun _=>none
instance:CoeFun Pz (fun _=>Nat→Option (List AV→Aa→Option (Gw × Aa))):=⟨Pz.at_⟩
def nQ(P:Program)(pr:Pz):Nat→Hz
 |0=>{ call:=fun _ _ _=>none,loop:=fun _ _=>none,md:=pr.md }
 |n+1=>
  { call:=fun f args h=>match f with
     | .round=>aY (nQ P pr n) P args h
     | .sh f=>match pr.sh f with
       |some p=>p args h
       |none=>match pr f with
        |some _=>none
        |none=>evS (nQ P pr n) P f args h
     | .fn f=>match pr f with
       |some p=>p args h
       |none=>evF (nQ P pr n) P f args h
    loop:=fun c s=>adS (Fp (nQ P pr n) P Wu c [] s) fun e s=>match e with
     | .normal=>(nQ P pr n).loop c s
     |e=>some (e,s)
    md:=pr.md }
end
end Go.Ev
namespace Go.Ev
open Go.RowKit
inductive RS where
 |fresh
 |dead
 |pl (cb co st sz:Nat)
 |lp (l:Nat)
abbrev Bq:=Nat→RS
inductive VR(w:World)(S:Nat→Prop):Bq→AV→Value→Prop
 |bool {ρ:Bq} (b:Bool):VR w S ρ (.bool b) (.bool b)
 |int {ρ:Bq} (k:IntKind) (n:Int):VR w S ρ (.int k n) (.int k n)
 |str {ρ:Bq} (s:ByteArray):VR w S ρ (.str s.data.toList) (.string s)
 |nilp {ρ:Bq}:VR w S ρ .nilp (.pointer none)
 |ptr {ρ:Bq} {b r o cb co st sz:Nat}:ρ b=.pl cb co st sz→VR w S ρ (.ptr b r o) (.pointer (some ⟨cb,co+r*st+o,none⟩))
 |ptrD {ρ:Bq} {b r o:Nat} {a:Addr}:ρ b=.dead→VR w S ρ (.ptr b r o) (.pointer (some a))
 |iptr {ρ:Bq} {cs:List AV} {blk off:Nat} (f:Nat→Value):S blk→(∀(i:Nat) (x:AV),cs[i]?=some x→w.cell? ⟨blk,off+i,none⟩=some (f i))→
   (∀(ρ':Bq) (i:Nat) (x:AV),cs[i]?=some x→VR w S ρ' x (f i))→VR w S ρ (.iptr cs) (.pointer (some ⟨blk,off,none⟩))
 |nils {ρ:Bq}:VR w S ρ .nils (.slice none 0 0)
 |imm {ρ:Bq} {st:Nat} {fl:Bool} {rows:List (List AV)} {a:Addr} {cap:Nat} (f:Nat→Nat→Value):(rows=[]∨(S a.block∧a.spot=none))→rows.length≤cap→
   (∀r∈rows,r.length=st)→(fl=true→∀r∈rows,∀x∈r,x.flat=true)→(∀r∈rows,∀x∈r,x.isCell=true)→
   (∀(i:Nat) (r:List AV) (j:Nat) (x:AV),rows[i]?=some r→r[j]?=some x→w.cell? ⟨a.block,a.off+i*st+j,none⟩=some (f i j))→
   (∀(ρ':Bq) (i:Nat) (r:List AV) (j:Nat) (x:AV),rows[i]?=some r→r[j]?=some x→VR w S ρ' x (f i j))→VR w S ρ (.imm st fl rows) (.slice (some a) rows.length cap)
 |slr {ρ:Bq} {b r len cb co st sz cap:Nat} {a:Addr}:ρ b=.pl cb co st sz→len≤cap→(cap=0∨(a=⟨cb,co+r*st,none⟩∧co+(r+cap)*st≤sz))→
   VR w S ρ (.slr st b r len) (.slice (some a) len cap)
 |slrD {ρ:Bq} {st b r len c:Nat} {a:Addr}:ρ b=.dead→len≤c→VR w S ρ (.slr st b r len) (.slice (some a) len c)
 |func {ρ:Bq} {fn:Fn} {a c:List AV} {va vc:Array Value}:a.length=va.size→c.length=vc.size→(∀(i:Nat) (x:AV) (v:Value),a[i]?=some x→va[i]?=some v→VR w S ρ x v)→
   (∀(i:Nat) (x:AV) (v:Value),c[i]?=some x→vc[i]?=some v→VR w S ρ x v)→VR w S ρ (.func fn a c) (.func fn va vc)
 |yl {ρ:Bq} {b l:Nat}:ρ b=.lp l→VR w S ρ (.yl b) (.func (.yield l) #[] #[])
 |ylD {ρ:Bq} {b l:Nat}:ρ b=.dead→VR w S ρ (.yl b) (.func (.yield l) #[] #[])
 |mapr {ρ:Bq} {b l:Nat}:ρ b=.lp l→VR w S ρ (.mapr b) (.map (some l))
 |maprD {ρ:Bq} {b l:Nat}:ρ b=.dead→VR w S ρ (.mapr b) (.map (some l))
 |itr {ρ:Bq} {b l:Nat}:ρ b=.lp l→VR w S ρ (.itr b) (.pointer (some ⟨l,0,none⟩))
 |itrD {ρ:Bq} {b l:Nat}:ρ b=.dead→VR w S ρ (.itr b) (.pointer (some ⟨l,0,none⟩))
 |nilm {ρ:Bq}:VR w S ρ .nilm (.map none)
 |nilf {ρ:Bq}:VR w S ρ .nilf .nilFunc
 |iface {ρ:Bq} {t:Nat} {x:AV} {v:Value}:VR w S ρ x v→VR w S ρ (.iface t x) (.iface t v)
 |nili {ρ:Bq}:VR w S ρ .nili .nilIface
 |agg {ρ:Bq} {cs:List AV} {vs:Array Value}:cs.length=vs.size→(∀(i:Nat) (x:AV) (v:Value),cs[i]?=some x→vs[i]?=some v→VR w S ρ x v)→VR w S ρ (.agg cs) (.agg vs)
 |tup {ρ:Bq} {cs:List AV} {vs:Array Value}:cs.length=vs.size→(∀(i:Nat) (x:AV) (v:Value),cs[i]?=some x→vs[i]?=some v→VR w S ρ x v)→VR w S ρ (.tup cs) (.tuple vs)
def Bq.le(ρ ρ':Bq):Prop:=∀b,ρ b=.fresh∨ρ' b=ρ b∨ρ' b=.dead
theorem Bq.le_refl(ρ:Bq):ρ.le ρ:=fun _=>.inr (.inl rfl)
theorem Bq.le_trans{a b c:Bq}(h:a.le b)(k:b.le c):a.le c:=by
 intro x
 rcases h x with h|h|h
 ·exact .inl h
 ·rcases k x with k|k|k
  ·exact .inl (h▸k)
  ·exact .inr (.inl (k.trans h))
  ·exact .inr (.inr k)
 ·rcases k x with k|k|k
  ·rw[h]at k;cases k
  ·exact .inr (.inr (k.trans h))
  ·exact .inr (.inr k)
def aSQ(S:Nat→Prop)(w w':World):Prop:=∀b,S b→w'.heap[b]?=w.heap[b]?
theorem aGZ{S:Nat→Prop}{w w':World}(h:aSQ S w w'){a:Addr}(ha:S a.block):w'.cell? a=w.cell? a:=by
 simp only[World.cell?,h a.block ha]
theorem VR.mono'{w w':World}{S S':Nat→Prop}(hk:aSQ S w w')(hS:∀b,S b→S' b){ρ:Bq}{x:AV}{v:Value}
 (h:VR w S ρ x v):∀{ρ':Bq},ρ.le ρ'→VR w' S' ρ' x v:=by
 induction h with
 |bool b=>exact fun _=>.bool b
 |int k n=>exact fun _=>.int k n
 |str s=>exact fun _=>.str s
 |nilp=>exact fun _=>.nilp
 | @ptr ρ b r o cb co st sz h=>
   intro ρ' hρ
   rcases hρ b with k|k|k
   ·rw[h]at k;cases k
   ·exact .ptr (k.trans h)
   ·exact .ptrD k
 | @ptrD ρ b r o a h=>
   intro ρ' hρ
   rcases hρ b with k|k|k
   ·rw[h]at k;cases k
   ·exact .ptrD (k.trans h)
   ·exact .ptrD k
 |iptr f hs hc _ ih=>exact fun _=>.iptr f (hS _ hs) (fun i x hx=>by rw[aGZ hk (a:=⟨_,_,none⟩) hs];exact hc i x hx) (fun ρ' i x hx=>ih ρ' i x hx ρ'.le_refl)
 |nils=>exact fun _=>.nils
 | @imm ρ st fl rows a cap f hs hl hst hfl hcl hc _ ih=>
   refine fun _=>.imm f (hs.imp id fun h=>⟨hS _ h.1,h.2⟩) hl hst hfl hcl (fun i r j x hr hx=>?_) (fun ρ' i r j x hr hx=>ih ρ' i r j x hr hx ρ'.le_refl)
   rcases hs with rfl|hs
   ·simp at hr
   ·rw[aGZ hk (a:=⟨_,_,none⟩) hs.1];exact hc i r j x hr hx
 | @slr ρ b r len cb co st sz cap a h hl ha=>
   intro ρ' hρ
   rcases hρ b with k|k|k
   ·rw[h]at k;cases k
   ·exact .slr (k.trans h) hl ha
   ·exact .slrD k hl
 | @slrD ρ st b r len c a h hl=>
   intro ρ' hρ
   rcases hρ b with k|k|k
   ·rw[h]at k;cases k
   ·exact .slrD (k.trans h) hl
   ·exact .slrD k hl
 |func h1 h2 _ _ ih1 ih2=>exact fun hρ=>.func h1 h2 (fun i x v hx hv=>ih1 i x v hx hv hρ) (fun i x v hx hv=>ih2 i x v hx hv hρ)
 | @yl ρ b l h=>
   intro ρ' hρ
   rcases hρ b with k|k|k
   ·rw[h]at k;cases k
   ·exact .yl (k.trans h)
   ·exact .ylD k
 | @ylD ρ b l h=>
   intro ρ' hρ
   rcases hρ b with k|k|k
   ·rw[h]at k;cases k
   ·exact .ylD (k.trans h)
   ·exact .ylD k
 | @mapr ρ b l h=>
   intro ρ' hρ
   rcases hρ b with k|k|k
   ·rw[h]at k;cases k
   ·exact .mapr (k.trans h)
   ·exact .maprD k
 | @maprD ρ b l h=>
   intro ρ' hρ
   rcases hρ b with k|k|k
   ·rw[h]at k;cases k
   ·exact .maprD (k.trans h)
   ·exact .maprD k
 | @itr ρ b l h=>
   intro ρ' hρ
   rcases hρ b with k|k|k
   ·rw[h]at k;cases k
   ·exact .itr (k.trans h)
   ·exact .itrD k
 | @itrD ρ b l h=>
   intro ρ' hρ
   rcases hρ b with k|k|k
   ·rw[h]at k;cases k
   ·exact .itrD (k.trans h)
   ·exact .itrD k
 |nilm=>exact fun _=>.nilm
 |nilf=>exact fun _=>.nilf
 |iface _ ih=>exact fun hρ=>.iface (ih hρ)
 |nili=>exact fun _=>.nili
 |agg h _ ih=>exact fun hρ=>.agg h (fun i x v hx hv=>ih i x v hx hv hρ)
 |tup h _ ih=>exact fun hρ=>.tup h (fun i x v hx hv=>ih i x v hx hv hρ)
theorem VR.mono{w w':World}{S S':Nat→Prop}{ρ ρ':Bq}(hk:aSQ S w w')(hS:∀b,S b→S' b)(hρ:ρ.le ρ'){x:AV}{v:Value}
 (h:VR w S ρ x v):VR w' S' ρ' x v:=h.mono' hk hS hρ
theorem VR.flat{w w':World}{S S':Nat→Prop}{ρ ρ':Bq}{x:AV}{v:Value}(hf:x.flat=true)(h:VR w S ρ x v):VR w' S' ρ' x v:=by
 cases h<;>first|exact .bool _|exact .int _ _|exact .str _|(simp[AV.flat]at hf)
def Value.isCell:Value→Bool
 | .agg _=>false
 | .tuple _=>false
 |_=>true
theorem VR.cell{w:World}{S:Nat→Prop}{ρ:Bq}{x:AV}{v:Value}(hx:x.isCell=true)(h:VR w S ρ x v):Value.isCell v=true:=by
 cases h<;>first|rfl|(simp[AV.isCell]at hx)
def LR(w:World)(S:Nat→Prop)(ρ:Bq)(cs:List AV)(vs:List Value):Prop:=
 cs.length=vs.length∧∀(i:Nat) (x:AV) (v:Value),cs[i]?=some x→vs[i]?=some v→VR w S ρ x v
theorem VR.cells{w:World}{S:Nat→Prop}{ρ:Bq}{x:AV}{v:Value}(h:VR w S ρ x v):LR w S ρ (Bd x) v.cells.toList:=by
 have one:∀{x:AV} {v:Value},VR w S ρ x v→LR w S ρ [x] [v]:=fun h=>⟨rfl,fun i x' v' hx hv=>by
  cases i with
  |zero=>simp at hx hv;subst hx hv;exact h
  |succ i=>simp at hx⟩
 cases h with
 |agg hl hc=>exact⟨by simp[Bd,Value.cells,hl],fun i x v hx hv=>hc i x v hx (by simpa [Value.cells]using hv)⟩
 |bool b=>exact one (.bool b)
 |int k n=>exact one (.int k n)
 |str s=>exact one (.str s)
 |nilp=>exact one .nilp
 |ptr h=>exact one (.ptr h)
 |ptrD h=>exact one (.ptrD h)
 |iptr f a b c=>exact one (.iptr f a b c)
 |nils=>exact one .nils
 |imm f a b c d e g k=>exact one (.imm f a b c d e g k)
 |slr a b c=>exact one (.slr a b c)
 |slrD a b=>exact one (.slrD a b)
 |func a b c d=>exact one (.func a b c d)
 |yl a=>exact one (.yl a)
 |ylD a=>exact one (.ylD a)
 |mapr a=>exact one (.mapr a)
 |maprD a=>exact one (.maprD a)
 |itr a=>exact one (.itr a)
 |itrD a=>exact one (.itrD a)
 |nilm=>exact one .nilm
 |nilf=>exact one .nilf
 |iface a=>exact one (.iface a)
 |nili=>exact one .nili
 |tup a b=>exact one (.tup a b)
structure Ic(w:World)(S:Nat→Prop)(ρ:Bq)(c:Array Value)(co st:Nat)(fl:Bool)(rows:List (List AV)):Prop where
 len:co+rows.length*st≤c.size
 wide:∀r∈rows,r.length=st
 flat:fl=true→∀r∈rows,∀x∈r,x.flat=true
 cell:∀(i:Nat) (r:List AV) (j:Nat) (x:AV),rows[i]?=some r→r[j]?=some x→∃v,c[co+i*st+j]?=some v∧VR w S ρ x v
 isCell:∀r∈rows,∀x∈r,x.isCell=true
def Yk.holds:Yk→LoopState→Option Code→Prop
 | .ready,s,p=>s=.ready∧p=none
 | .busy,s,p=>s=.busy∧p=none
 | .done c,s,p=>s=.done∧p=some c
 | .map,_,_=>False
 | .itr,_,_=>False
structure aJ1(w:World)(S:Nat→Prop)(ρ:Bq)(r:Loop)(ps:List Nat)(asg body:Code)(tmps:List AV)(st:Yk):Prop where
 params:r.params.toList=ps
 assign:r.assign=asg
 body:r.body=body
 tmps:LR w S ρ tmps r.tmps.toList
 state:st.holds r.state r.pending
def kvL:List MapEntry→List Value
 | []=>[]
 |e::es=>e.key::e.val::kvL es
inductive acO(w:World)(S:Nat→Prop)(ρ:Bq):Obj→List Nat→Code→Code→List AV→Yk→Prop
 |loop {r:Loop} {ps:List Nat} {asg body:Code} {tmps:List AV} {st:Yk}:aJ1 w S ρ r ps asg body tmps st→acO w S ρ (.loop r) ps asg body tmps st
 |map {es:Array MapEntry} {ck:Nat} {kvs:List AV}:LR w S ρ kvs (kvL es.toList)→acO w S ρ (.map es ck) [] .skip .skip kvs .map
 |itr {s:ByteArray} {pos:Nat} {kvs:List AV}:LR w S ρ kvs [.string s,.int .i64 (pos:Nat)]→acO w S ρ (.stringIter s pos) [] .skip .skip kvs .itr
theorem acO.cells{w:World}{S:Nat→Prop}{ρ:Bq}{c:Array Value}{e:TypeId}{f:Nat × Nat}{ps:List Nat}{asg body:Code}{tmps:List AV}{st:Yk}(h:acO w S ρ (.cells c e f) ps asg body tmps st):False:=by cases h
structure HR(w:World)(S:Nat→Prop)(ρ:Bq)(g:HF):Prop where
 at_:∀b cb co st sz,ρ b=.pl cb co st sz→∃(c:Array Value) (e:TypeId) (fz:Nat × Nat) (fl:Bool) (rows:List (List AV)),
  w.heap[cb]?=some (.cells c e fz)∧c.size=sz∧Ic w S ρ c co st fl rows∧
  (((∃wr,g b=some (.live st fl wr rows))∧¬S cb∧∀o,o<sz→¬(fz.1≤o∧o<fz.2))∨(g b=some (.frz st fl rows)∧S cb))
 dead:∀b,ρ b=.dead→g b=some .dead
 inj:∀b b' cb co st sz co' st' sz',ρ b=.pl cb co st sz→ρ b'=.pl cb co' st' sz'→b=b'
 old:∀b,S b→b<w.heap.size
 lps:∀b l,ρ b=.lp l→∃(r:Obj) (ps:List Nat) (asg body:Code) (tmps:List AV) (st:Yk),w.heap[l]?=some r∧g b=some (.lp ps asg body tmps st)∧acO w S ρ r ps asg body tmps st
 linj:∀b b' l,ρ b=.lp l→ρ b'=.lp l→b=b'
 lnS:∀b l,ρ b=.lp l→¬S l
def upd(g:HF)(b:Nat)(c:CB):HF:=fun i=>if i=b then some c else g i
def Dq(g:HF):As→HF
 | .new b c=>upd g b c
 | .cells b r o vs=>
   match g b with
   |some (.live st fl _ rows)=>upd g b (.live st (fl&&vs.all AV.flat) true (Xg rows r o vs))
   |_=>g
 | .put b c=>upd g b c
def Bt(g:HF):List As→HF
 | []=>g
 |e::es=>Bt (Dq g e) es
def iV:Obj→Bool
 | .cells _ _ _=>true
 | .loop _=>true
 | .map _ _=>true
 | .stringIter _ _=>true
 |_=>false
structure Ix(w w':World)(S S':Nat→Prop)(ρ ρ':Bq):Prop where
 size:w.heap.size≤w'.heap.size
 os:w'.os=w.os
 tape:w'.tape=w.tape
 output:w'.output=w.output
 keep:aSQ S w w'
 sub:∀b,S b→S' b
 le:ρ.le ρ'
 other:∀b,b<w.heap.size→(∀id co st sz,ρ id≠.pl b co st sz)→(∀id,ρ id≠.lp b)→w'.heap[b]?=w.heap[b]?
 rng:∀id cb co st sz,ρ' id=.pl cb co st sz→w.heap.size≤cb∨∃id co st sz,ρ id=.pl cb co st sz
 grow:∀b,S' b→S b∨w.heap.size≤b∨∃id co st sz,ρ id=.pl b co st sz
 objs:∀(b:Nat) (o:Obj),w.heap[b]?=some o→iV o=false→w'.heap[b]?=some o
 loops:∀(b:Nat) (r:Loop),w.heap[b]?=some (.loop r)→∃st pe,w'.heap[b]?=some (.loop { r with state:=st,pending:=pe })
 lrng:∀id l,ρ' id=.lp l→w.heap.size≤l∨∃id,ρ id=.lp l
theorem Ix.refl(w:World)(S:Nat→Prop)(ρ:Bq):Ix w w S S ρ ρ:=
 ⟨aC7 _,rfl,rfl,rfl,fun _ _=>rfl,fun _ h=>h,ρ.le_refl,fun _ _ _ _=>rfl,fun id _ co st sz h=>.inr ⟨id,co,st,sz,h⟩,fun _ h=>.inl h,fun _ _ h _=>h,fun _ r h=>⟨r.state,r.pending,h⟩,fun id _ h=>.inr ⟨id,h⟩⟩
theorem Ix.trans{w w' w'':World}{S S' S'':Nat→Prop}{ρ ρ' ρ'':Bq}(h:Ix w w' S S' ρ ρ')(k:Ix w' w'' S' S'' ρ' ρ''):Ix w w'' S S'' ρ ρ'' where
 size:=aLH h.size k.size
 os:=k.os.trans h.os
 tape:=k.tape.trans h.tape
 output:=k.output.trans h.output
 keep:=fun b hb=>(k.keep b (h.sub b hb)).trans (h.keep b hb)
 sub:=fun b hb=>k.sub b (h.sub b hb)
 le:=Bq.le_trans h.le k.le
 other:=fun b hb hn hl=>by
  rw[k.other b (Nat.lt_of_lt_of_le hb h.size) (fun id co st sz e=>?_) (fun id e=>?_),h.other b hb hn hl]
  ·rcases h.rng id b co st sz e with h1|⟨id',co',st',sz',h1⟩
   ·omega
   ·exact hn _ _ _ _ h1
  ·rcases h.lrng id b e with h1|⟨id',h1⟩
   ·omega
   ·exact hl _ h1
 rng:=fun id cb co st sz e=>by
  rcases k.rng id cb co st sz e with h1|⟨id',co',st',sz',h1⟩
  ·exact .inl (aLH h.size h1)
  ·exact h.rng _ _ _ _ _ h1
 grow:=fun b hb=>by
  rcases k.grow b hb with h1|h1|⟨id,co,st,sz,h1⟩
  ·exact h.grow b h1
  ·exact .inr (.inl (aLH h.size h1))
  ·exact .inr (h.rng _ _ _ _ _ h1)
 objs:=fun b o hb ho=>k.objs b o (h.objs b o hb ho) ho
 loops:=fun b r hb=>by
  obtain⟨st,pe,h1⟩:=h.loops b r hb
  obtain⟨st',pe',h2⟩:=k.loops b _ h1
  exact⟨st',pe',h2⟩
 lrng:=fun id l e=>by
  rcases k.lrng id l e with h1|⟨id',h1⟩
  ·exact .inl (aLH h.size h1)
  ·exact h.lrng _ _ h1
def As.id:As→Nat
 | .new b _=>b
 | .cells b _ _ _=>b
 | .put b _=>b
def Kz(es:List As)(b:Nat):Prop:=∃e∈es,e.id=b
def jI(E:Nat→Prop)(w w':World)(ρ ρ':Bq):Prop:=∀b cb co st sz,ρ b=.pl cb co st sz→¬E b→ρ' b=.pl cb co st sz∧w'.heap[cb]?=w.heap[cb]?
def lQ(es:List As)(ρ ρ':Bq):Prop:=∀b,ρ' b=.fresh↔(ρ b=.fresh∧¬Kz es b)
theorem lQ.refl{ρ:Bq}:lQ [] ρ ρ:=fun b=>⟨fun h=>⟨h,fun⟨e,he,_⟩=>by simp at he⟩,fun h=>h.1⟩
theorem jI.refl{E:Nat→Prop}{w:World}{ρ:Bq}:jI E w w ρ ρ:=fun _ _ _ _ _ h _=>⟨h,rfl⟩
theorem jI.trans{E E':Nat→Prop}{w w' w'':World}{ρ ρ' ρ'':Bq}(h:jI E w w' ρ ρ')(k:jI E' w' w'' ρ' ρ''):jI (fun b=>E b∨E' b) w w'' ρ ρ'':=fun b cb co st sz hb hn=>by
 obtain⟨h1,h2⟩:=h b cb co st sz hb (fun e=>hn (.inl e))
 obtain⟨h3,h4⟩:=k b cb co st sz h1 (fun e=>hn (.inr e))
 exact⟨h3,h4.trans h2⟩
theorem jI.mono{E E':Nat→Prop}{w w':World}{ρ ρ':Bq}(h:jI E w w' ρ ρ')(hE:∀b,E b→E' b):jI E' w w' ρ ρ':=fun b cb co st sz hb hn=>h b cb co st sz hb (fun e=>hn (hE b e))
theorem VR.sim{w w':World}{S S':Nat→Prop}{ρ ρ':Bq}(h:Ix w w' S S' ρ ρ'){x:AV}{v:Value}(k:VR w S ρ x v):VR w' S' ρ' x v:=k.mono h.keep h.sub h.le
theorem LR.sim{w w':World}{S S':Nat→Prop}{ρ ρ':Bq}(h:Ix w w' S S' ρ ρ'){x:List AV}{v:List Value}(k:LR w S ρ x v):LR w' S' ρ' x v:=
 ⟨k.1,fun i a b ha hb=>(k.2 i a b ha hb).sim h⟩
theorem adF{w:World}{S:Nat→Prop}{ρ:Bq}{v:Value}{x:AV}(h:al4 v=some x):VR w S ρ x v:=by
 unfold al4 at h
 split at h<;>simp at h<;>subst h
 ·exact .bool _
 ·exact .int _ _
 ·exact .str _
 ·exact .nilp
 ·exact .nils
 ·exact .nilf
 ·exact .nili
 ·exact .nilm
theorem Ht{α β:Type}{f:α→Option β}:∀{l:List α} {r:List β},Da f l=some r→l.length=r.length∧∀(i:Nat) (b:β),r[i]?=some b→∃a,l[i]?=some a∧f a=some b
 | [],r,h=>by simp[Da]at h;subst h;exact⟨rfl,fun i b hb=>by simp at hb⟩
 |a::l,r,h=>by
  simp only[Da,acL,aqD]at h
  obtain⟨b,hb,bs,hbs,rfl⟩:=h
  obtain⟨h1,h2⟩:=Ht hbs
  refine⟨by simp[h1],fun i c hc=>?_⟩
  cases i with
  |zero=>simp at hc;subst hc;exact⟨a,rfl,hb⟩
  |succ i=>simp at hc;simpa using h2 i c hc
theorem nR{α β:Type}{f:α→Option β}{l:List α}{r:List β}(h:Da f l=some r){i:Nat}{a:α}(ha:l[i]?=some a):∃b,r[i]?=some b∧f a=some b:=by
 obtain⟨h1,h2⟩:=Ht h
 have hi:i<l.length:=(aAM.1 ha).1
 obtain⟨a',ha',hf⟩:=h2 i (r[i]'(h1▸hi)) (acZ _)
 rw[ha]at ha';cases ha'
 exact⟨_,acZ _,hf⟩
theorem Rr{w:World}{S:Nat→Prop}{ρ:Bq}{v:Value}{x:AV}(h:aHY v=some x):VR w S ρ x v:=by
 unfold aHY at h
 split at h
 ·rename_i cs
  obtain⟨l,hl,rfl⟩:=aqD.1 h
  obtain⟨h1,h2⟩:=Ht hl
  refine .agg (by simpa using h1.symm) fun i y u hy hu=>?_
  obtain⟨u',hu',he⟩:=h2 i y hy
  rw[aER,hu]at hu';cases hu'
  exact adF he
 ·rename_i cs
  obtain⟨l,hl,rfl⟩:=aqD.1 h
  obtain⟨h1,h2⟩:=Ht hl
  refine .tup (by simpa using h1.symm) fun i y u hy hu=>?_
  obtain⟨u',hu',he⟩:=h2 i y hy
  rw[aER,hu]at hu';cases hu'
  exact adF he
 ·exact adF h
theorem iP{w:World}{S:Nat→Prop}{ρ:Bq}:VR w S ρ (.tup []) undef:=.tup rfl fun i x v hx=>by simp at hx
abbrev TR(w:World)(S:Nat→Prop)(ρ:Bq)(tmps:List AV)(ct:Array Value):Prop:=LR w S ρ tmps ct.toList
theorem ab9{w:World}{S:Nat→Prop}{ρ:Bq}{tmps:List AV}{ct:Array Value}(T:TR w S ρ tmps ct)(t:Nat):VR w S ρ (Po tmps t) (ct.getD t undef):=by
 rw[atX]
 by_cases ht:t<tmps.length
 ·have h2:t<ct.size:=by have:=T.1;simpa [this]using ht
  have e1:tmps[t]?=some tmps[t]:=acZ ht
  have e2:ct.toList[t]?=some ct[t]:=by simp[aER,h2]
  rw[e1];simp only[Option.getD_some,Array.getD,h2,dif_pos]
  exact T.2 t _ _ e1 e2
 ·have h2:¬t<ct.size:=by have:=T.1;simp at this;omega
  rw[aKM (by omega)]
  simp only[Option.getD_none,Array.getD,h2,dif_neg,not_false_eq_true]
  exact iP
theorem Bl{w:World}{S:Nat→Prop}{ρ:Bq}{tmps:List AV}{a:Act}(T:TR w S ρ tmps a.tmps){x:Operand}{v:AV}(h:Ar tmps x=some v):VR w S ρ v (a.eval x):=by
 cases x with
 |tmp t=>simp[Ar]at h;subst h;exact ab9 T t
 |const c=>exact Rr h
 |global g=>simp[Ar]at h
 |func f=>simp[Ar]at h;subst h;exact .func rfl rfl (fun i x v hx=>by simp at hx) (fun i x v hx=>by simp at hx)
theorem Vs{w:World}{S:Nat→Prop}{ρ:Bq}{tmps:List AV}{a:Act}(T:TR w S ρ tmps a.tmps):∀{xs:List Operand} {vs:List AV},Et tmps xs=some vs→
 LR w S ρ vs (xs.map a.eval)
 | [],vs,h=>by simp[Et]at h;subst h;exact⟨rfl,fun i x v hx=>by simp at hx⟩
 |x::xs,vs,h=>by
  simp only[Et,acL,aqD]at h
  obtain⟨v,hv,l,hl,rfl⟩:=h
  have ih:=Vs T hl
  refine⟨by simp[ih.1],fun i y u hy hu=>?_⟩
  cases i with
  |zero=>simp at hy hu;subst hy hu;exact Bl T hv
  |succ i=>simp at hy hu;exact ih.2 i y u hy (by simpa using hu)
theorem LR.nil{w:World}{S:Nat→Prop}{ρ:Bq}:LR w S ρ [] []:=⟨rfl,fun i x v hx=>by simp at hx⟩
theorem LR.cons{w:World}{S:Nat→Prop}{ρ:Bq}{x:AV}{v:Value}{xs:List AV}{vs:List Value}(h:VR w S ρ x v)(k:LR w S ρ xs vs):LR w S ρ (x::xs) (v::vs):=
 ⟨by simp[k.1],fun i y u hy hu=>by
   cases i with
   |zero=>simp at hy hu;subst hy hu;exact h
   |succ i=>simp at hy hu;exact k.2 i y u hy hu⟩
theorem LR.cons_inv{w:World}{S:Nat→Prop}{ρ:Bq}{x:AV}{xs:List AV}{vs:List Value}(h:LR w S ρ (x::xs) vs):∃v vs',vs=v::vs'∧VR w S ρ x v∧LR w S ρ xs vs':=by
 cases vs with
 |nil=>have:=h.1;simp at this
 |cons v vs=>exact⟨v,vs,rfl,h.2 0 x v rfl rfl,by have:=h.1;simpa using this,fun i y u hy hu=>h.2 (i+1) y u (by simpa using hy) (by simpa using hu)⟩
theorem LR.nil_inv{w:World}{S:Nat→Prop}{ρ:Bq}{vs:List Value}(h:LR w S ρ [] vs):vs=[]:=by
 have:=h.1;simp at this;exact List.length_eq_zero_iff.1 this.symm
theorem LR.append{w:World}{S:Nat→Prop}{ρ:Bq}:∀{xs ys:List AV} {vs us:List Value},LR w S ρ xs vs→LR w S ρ ys us→LR w S ρ (xs++ys) (vs++us)
 | [],ys,vs,us,h,k=>by rw[h.nil_inv];exact k
 |x::xs,ys,vs,us,h,k=>by obtain⟨v,vs',rfl,h1,h2⟩:=h.cons_inv;exact .cons h1 (h2.append k)
theorem LR.take{w:World}{S:Nat→Prop}{ρ:Bq}{xs:List AV}{vs:List Value}(h:LR w S ρ xs vs)(n:Nat):LR w S ρ (xs.take n) (vs.take n):=
 ⟨by simp[h.1],fun i y u hy hu=>by
   rw[aEO]at hy hu
   split at hy
   ·rename_i hi;rw[if_pos hi]at hu;exact h.2 i y u hy hu
   ·simp at hy⟩
theorem LR.drop{w:World}{S:Nat→Prop}{ρ:Bq}{xs:List AV}{vs:List Value}(h:LR w S ρ xs vs)(n:Nat):LR w S ρ (xs.drop n) (vs.drop n):=
 ⟨by simp[h.1],fun i y u hy hu=>by rw[aAN]at hy hu;exact h.2 _ y u hy hu⟩
theorem LR.set{w:World}{S:Nat→Prop}{ρ:Bq}{xs:List AV}{vs:List Value}(h:LR w S ρ xs vs)(n:Nat){x:AV}{v:Value}(k:VR w S ρ x v):LR w S ρ (xs.set n x) (vs.set n v):=
 ⟨by simp[h.1],fun i y u hy hu=>by
   rw[aLI]at hy hu
   split at hy
   ·rename_i hi;rw[if_pos hi]at hu
    split at hy
    ·simp at hy;split at hu
     ·simp at hu;subst hy hu;exact k
     ·simp at hu
    ·simp at hy
   ·rename_i hi;rw[if_neg hi]at hu;exact h.2 i y u hy hu⟩
theorem aJR{w:World}{S:Nat→Prop}{ρ:Bq}{tmps:List AV}{a:Act}(T:TR w S ρ tmps a.tmps)(d:Option Nat){x:AV}{v:Value}(k:VR w S ρ x v):
 TR w S ρ (put tmps d x) (a.put d v).tmps:=by
 cases d with
 |none=>exact T
 |some d=>simpa [put,wB,Act.put,TR,Array.toList_setIfInBounds]using T.set d k
theorem aGT{v:Value}(h:Value.isCell v=true):v.oneCell'=true:=by cases v<;>first|rfl|(simp[Value.isCell]at h)
def setB(w:World)(g:Nat)(o:Obj):World:={ w with heap:=w.heap.setIfInBounds g o }
theorem nG{w:World}{g:Nat}{o o':Obj}(h:w.heap[g]?=some o'):(setB w g o).heap[g]?=some o:=by
 have:g<w.heap.size:=(aAO.1 h).1
 simp[setB,this]
theorem Cd{w:World}{g k:Nat}{o:Obj}(h:k≠g):(setB w g o).heap[k]?=w.heap[k]?:=by
 simp[setB,Array.getElem?_setIfInBounds_ne (Ne.symm h)]
theorem aPK{w:World}{g i:Nat}{cur:Array Value}{t:TypeId}{fz:Nat × Nat}(h:w.heap[g]?=some (.cells cur t fz))(v:Value):
 w.setCell ⟨g,i,none⟩ v=setB w g (.cells (cur.setIfInBounds i v) t fz):=by
 unfold World.setCell setB
 congr 1
 apply aR1
 intro k
 rw[Array.getElem?_modify,aOY]
 have hg:g<w.heap.size:=(aAO.1 h).1
 by_cases hk:g=k
 ·subst hk
  have h':w.heap[g]=.cells cur t fz:=by simpa [Array.getElem?_eq_getElem hg]using h
  simp[hg,h']
 ·simp[hk]
theorem azG{w:World}{g i:Nat}{cur:Array Value}{t:TypeId}{fz:Nat × Nat}(h:w.heap[g]?=some (.cells cur t fz)):w.cell? ⟨g,i,none⟩=cur[i]?:=cell_of_row w g i cur t fz h
theorem aIU{w:World}{g i:Nat}{cur:Array Value}{t:TypeId}{fz:Nat × Nat}(h:w.heap[g]?=some (.cells cur t fz))(hz:¬(fz.1≤i∧i<fz.2)):w.frozen? ⟨g,i,none⟩=false:=by
 obtain⟨lo,hi⟩:=fz
 simp only[World.frozen?,h]
 simp at hz ⊢
 omega
def Ym(cur:Array Value)(o:Nat):List Value→Array Value
 | []=>cur
 |v::vs=>Ym (cur.setIfInBounds o v) (o+1) vs
theorem aI:∀(vs:List Value) (cur:Array Value) (o:Nat),(Ym cur o vs).size=cur.size
 | [],_,_=>rfl
 |v::vs,cur,o=>by simp[Ym,aI vs]
theorem abY:∀(vs:List Value) (cur:Array Value) (o j:Nat),o+vs.length≤cur.size→(Ym cur o vs)[j]?=if o≤j∧j<o+vs.length then vs[j-o]? else cur[j]?
 | [],cur,o,j,_=>by simp[Ym];omega
 |v::vs,cur,o,j,h=>by
  simp at h
  rw[Ym,abY vs _ _ _ (by simp;omega)]
  by_cases h1:o+1≤j∧j<o+1+vs.length
  ·rw[if_pos h1,if_pos (by simp;omega)]
   have:j-o=(j-(o+1))+1:=by omega
   rw[this];simp
  ·rw[if_neg h1,aOY]
   by_cases h2:o=j
   ·subst h2;rw[if_pos rfl,if_pos (by omega),if_pos (by simp)];simp
   ·rw[if_neg h2,if_neg (by simp;omega)]
theorem aVX(w:World)(g:Nat)(o o':Obj):setB (setB w g o) g o'=setB w g o':=by
 simp[setB]
theorem pB{P:Program}{g o:Nat}{t:TypeId}{fz:Nat × Nat}:∀(vs:List Value) (i:Nat) (cur:Array Value) (w:World),w.heap[g]?=some (.cells cur t fz)→o+i+vs.length≤cur.size→
 (∀j,o+i≤j→j<o+i+vs.length→¬(fz.1≤j∧j<fz.2))→(∀v∈vs,Value.isCell v=true)→
 (storeCells ⟨g,o,none⟩ vs i).run P w=.ok () (setB w g (.cells (Ym cur (o+i) vs) t fz))
 | [],i,cur,w,hg,_,_,_=>by
   have:setB w g (.cells cur t fz)=w:=by
    unfold setB
    have:w.heap.setIfInBounds g (.cells cur t fz)=w.heap:=by
     apply aR1
     intro k
     rw[aOY]
     split
     ·rename_i h;subst h;rw[hg];simp[(aAO.1 hg).1]
     ·rfl
    rw[this]
   simp[storeCells,Ym,this]
 |v::vs,i,cur,w,hg,hl,hz,hc=>by
  simp at hl
  have hadd:(⟨g,o,none⟩:Addr).add i=⟨g,o+i,none⟩:=by unfold Addr.add;split<;>simp_all
  have hcell:w.cell? ⟨g,o+i,none⟩=some (cur[o+i]'(by omega)):=by rw[azG hg];simp[show o+i<cur.size by omega]
  have hfz:w.frozen? ⟨g,o+i,none⟩=false:=aIU hg (hz _ (aC7 _) (by simp))
  have hset:=aPK hg v (i:=o+i)
  have ih:=pB (P:=P) (g:=g) (o:=o) (t:=t) (fz:=fz) vs (i+1) (cur.setIfInBounds (o+i) v) (setB w g (.cells (cur.setIfInBounds (o+i) v) t fz)) (nG hg) (by simp;omega)
   (fun j h1 h2=>hz j (by omega) (by simp;omega)) (fun v hv=>hc v (aM9 _ hv))
  simp only[storeCells,Sem.run_bind,hadd,run_store _ _ _ _ _ (aGT (hc v (aHJ ..))),hcell,hfz,hset]
  simp only[aR5,if_false,Result.andThen_ok]
  rw[ih,aVX]
  rfl
theorem Ix.setB{w:World}{S:Nat→Prop}{ρ:Bq}{id cb co st sz:Nat}(h:ρ id=.pl cb co st sz)(hS:¬S cb)(hcl:∃c e f,w.heap[cb]?=some (.cells c e f))(o:Obj):Ix w (setB w cb o) S S ρ ρ where
 size:=by simp[Ev.setB]
 os:=rfl
 tape:=rfl
 output:=rfl
 keep:=fun b hb=>Cd (fun e=>hS (e▸hb))
 sub:=fun _ h=>h
 le:=ρ.le_refl
 other:=fun b _ hn _=>Cd (fun e=>hn id co st sz (e▸h))
 rng:=fun id _ co st sz h=>.inr ⟨id,co,st,sz,h⟩
 grow:=fun _ h=>.inl h
 objs:=fun b o' hb ho=>by
  obtain⟨c,e,f,hc⟩:=hcl
  rw[Cd (fun e=>by rw[e,hc]at hb;cases hb;simp[iV]at ho)];exact hb
 loops:=fun b r hb=>by
  obtain⟨c,e,f,hc⟩:=hcl
  refine⟨r.state,r.pending,?_⟩
  rw[Cd (fun e=>by rw[e,hc]at hb;cases hb)];exact hb
 lrng:=fun id _ h=>.inr ⟨id,h⟩
def Bq.put(ρ:Bq)(b:Nat)(r:RS):Bq:=fun i=>if i=b then r else ρ i
theorem Bq.put_same(ρ:Bq)(b:Nat)(r:RS):ρ.put b r b=r:=by simp[Bq.put]
theorem Bq.put_other(ρ:Bq){b i:Nat}(r:RS)(h:i≠b):ρ.put b r i=ρ i:=by simp[Bq.put,h]
theorem Bq.le_put_fresh{ρ:Bq}{b:Nat}(h:ρ b=.fresh)(r:RS):ρ.le (ρ.put b r):=fun i=>by
 by_cases hi:i=b
 ·subst hi;exact .inl h
 ·exact .inr (.inl (Bq.put_other ρ r hi))
theorem Bq.le_put_dead(ρ:Bq)(b:Nat):ρ.le (ρ.put b .dead):=fun i=>by
 by_cases hi:i=b
 ·subst hi;exact .inr (.inr (Bq.put_same ρ i .dead))
 ·exact .inr (.inl (Bq.put_other ρ .dead hi))
theorem Ez{w:World}{o:Obj}{k:Nat}(h:k<w.heap.size):(w.alloc o).heap[k]?=w.heap[k]?:=Below.heap_alloc w o k h
theorem aiI{w:World}{o:Obj}:(w.alloc o).heap[w.heap.size]?=some o:=heap_alloc_new w o
theorem Ic.sim{w w':World}{S S':Nat→Prop}{ρ ρ':Bq}(h:Ix w w' S S' ρ ρ'){c:Array Value}{co st:Nat}{fl:Bool}{rows:List (List AV)}(k:Ic w S ρ c co st fl rows):
 Ic w' S' ρ' c co st fl rows:=
 ⟨k.len,k.wide,k.flat,fun i r j x hr hx=>by obtain⟨v,h1,h2⟩:=k.cell i r j x hr hx;exact⟨v,h1,h2.sim h⟩,k.isCell⟩
theorem Ix.drew(w:World)(S:Nat→Prop)(ρ:Bq):Ix w w.drew S S ρ ρ:=
 ⟨aC7 _,rfl,rfl,rfl,fun _ _=>rfl,fun _ h=>h,ρ.le_refl,fun _ _ _ _=>rfl,fun id _ co st sz h=>.inr ⟨id,co,st,sz,h⟩,fun _ h=>.inl h,fun _ _ h _=>h,fun _ r h=>⟨r.state,r.pending,h⟩,fun id _ h=>.inr ⟨id,h⟩⟩
theorem aJ1.sim{w w':World}{S S':Nat→Prop}{ρ ρ':Bq}(h:Ix w w' S S' ρ ρ'){r:Loop}{ps:List Nat}{asg body:Code}{tmps:List AV}{st:Yk}(k:aJ1 w S ρ r ps asg body tmps st):aJ1 w' S' ρ' r ps asg body tmps st:=
 ⟨k.params,k.assign,k.body,LR.sim h k.tmps,k.state⟩
theorem acO.sim{w w':World}{S S':Nat→Prop}{ρ ρ':Bq}(h:Ix w w' S S' ρ ρ'){r:Obj}{ps:List Nat}{asg body:Code}{tmps:List AV}{st:Yk}(k:acO w S ρ r ps asg body tmps st):acO w' S' ρ' r ps asg body tmps st:=by
 cases k with
 |loop k=>exact .loop (k.sim h)
 |map k=>exact .map (LR.sim h k)
 |itr k=>exact .itr (LR.sim h k)
theorem HR.drew{w:World}{S:Nat→Prop}{ρ:Bq}{g:HF}(H:HR w S ρ g):HR w.drew S ρ g where
 at_:=fun b cb co st sz h=>by
  obtain⟨c,e,fz,fl,rows,h1,h2,h3,h4⟩:=H.at_ b cb co st sz h
  exact⟨c,e,fz,fl,rows,h1,h2,h3.sim (Ix.drew w S ρ),h4⟩
 dead:=H.dead
 inj:=H.inj
 old:=H.old
 lps:=fun b l h=>by
  obtain⟨r,ps,asg,body,tmps,st,h1,h2,h3⟩:=H.lps b l h
  exact⟨r,ps,asg,body,tmps,st,h1,h2,h3.sim (Ix.drew w S ρ)⟩
 linj:=H.linj
 lnS:=H.lnS
theorem Ix.alloc{w:World}{S:Nat→Prop}{ρ:Bq}{base:Nat}(hb:ρ base=.fresh)(hS:∀b,S b→b<w.heap.size)(o:Obj)(co st sz:Nat):Ix w (w.alloc o) S S ρ (ρ.put base (.pl w.heap.size co st sz)) where
 size:=by simp
 os:=rfl
 tape:=rfl
 output:=rfl
 keep:=fun b hb=>Ez (hS b hb)
 sub:=fun _ h=>h
 le:=Bq.le_put_fresh hb _
 other:=fun b h _ _=>Ez h
 rng:=fun id cb co' st' sz' h=>by
  by_cases hi:id=base
  ·subst hi;rw[Bq.put_same]at h;cases h;exact .inl (aC7 _)
  ·rw[Bq.put_other _ _ hi]at h;exact .inr ⟨id,_,_,_,h⟩
 grow:=fun _ h=>.inl h
 objs:=fun b o' hb _=>by rw[Ez (aAO.1 hb).1];exact hb
 loops:=fun b r hb=>⟨r.state,r.pending,by rw[Ez (aAO.1 hb).1];exact hb⟩
 lrng:=fun id l h=>by
  by_cases hi:id=base
  ·subst hi;rw[Bq.put_same]at h;cases h
  ·rw[Bq.put_other _ _ hi]at h;exact .inr ⟨id,h⟩
theorem HR.alloc{w:World}{S:Nat→Prop}{ρ:Bq}{g:HF}(H:HR w S ρ g){base:Nat}(hb:ρ base=.fresh){c:Array Value}{st:Nat}{fl wr:Bool}{rows:List (List AV)}
 (k:Ic w S ρ c 0 st fl rows) (e:TypeId):HR (w.alloc (.cells c e)) S (ρ.put base (.pl w.heap.size 0 st c.size)) (upd g base (.live st fl wr rows)) where
 at_:=fun b cb co st' sz h=>by
  have hs:=Ix.alloc hb H.old (.cells c e) 0 st c.size
  by_cases hi:b=base
  ·subst hi;rw[Bq.put_same]at h;cases h
   refine⟨c,e,(0,0),fl,rows,aiI,rfl,k.sim hs,.inl ⟨⟨wr,by simp[upd]⟩,fun h=>?_,fun o _ h=>by simp at h⟩⟩
   have:=H.old _ h;omega
  ·rw[Bq.put_other _ _ hi]at h
   obtain⟨c',e',fz,fl',rows',h1,h2,h3,h4⟩:=H.at_ b cb co st' sz h
   refine⟨c',e',fz,fl',rows',?_,h2,h3.sim hs,by simpa [upd,hi]using h4⟩
   rw[Ez (aAO.1 h1).1];exact h1
 dead:=fun b h=>by
  by_cases hi:b=base
  ·subst hi;rw[Bq.put_same]at h;cases h
  ·rw[Bq.put_other _ _ hi]at h;simpa [upd,hi]using H.dead b h
 inj:=fun b b' cb co st1 sz co' st' sz' h h'=>by
  by_cases hi:b=base<;>by_cases hi':b'=base
  ·rw[hi,hi']
  ·subst hi;rw[Bq.put_same]at h;rw[Bq.put_other _ _ hi']at h';cases h
   obtain⟨c',e',fz,fl',rows',h1,_⟩:=H.at_ _ _ _ _ _ h'
   have:=(aAO.1 h1).1;omega
  ·subst hi';rw[Bq.put_same]at h';rw[Bq.put_other _ _ hi]at h;cases h'
   obtain⟨c',e',fz,fl',rows',h1,_⟩:=H.at_ _ _ _ _ _ h
   have:=(aAO.1 h1).1;omega
  ·rw[Bq.put_other _ _ hi]at h;rw[Bq.put_other _ _ hi']at h';exact H.inj _ _ _ _ _ _ _ _ _ h h'
 old:=fun b h=>by have:=H.old b h;simp;omega
 lps:=fun b l h=>by
  by_cases hi:b=base
  ·subst hi;rw[Bq.put_same]at h;cases h
  ·rw[Bq.put_other _ _ hi]at h
   obtain⟨r,ps,asg,body,tmps,st',h1,h2,h3⟩:=H.lps b l h
   exact⟨r,ps,asg,body,tmps,st',by rw[Ez (aAO.1 h1).1];exact h1,by simpa [upd,hi]using h2,h3.sim (Ix.alloc hb H.old (.cells c e) 0 st c.size)⟩
 linj:=fun b b' l h h'=>by
  have hn:∀x,ρ.put base (.pl w.heap.size 0 st c.size) x=.lp l→ρ x=.lp l:=fun x hx=>by
   by_cases hi:x=base
   ·subst hi;rw[Bq.put_same]at hx;cases hx
   ·rw[Bq.put_other _ _ hi]at hx;exact hx
  exact H.linj b b' l (hn b h) (hn b' h')
 lnS:=fun b l h=>by
  by_cases hi:b=base
  ·subst hi;rw[Bq.put_same]at h;cases h
  ·rw[Bq.put_other _ _ hi]at h;exact H.lnS b l h
theorem HR.setLive{w:World}{S:Nat→Prop}{ρ:Bq}{g:HF}(H:HR w S ρ g){b cb co st sz:Nat}(hb:ρ b=.pl cb co st sz)(hS:¬S cb){c:Array Value}{e:TypeId}{fz:Nat × Nat}
 (hsz:c.size=sz) (hfz:∀o,o<sz→¬(fz.1≤o∧o<fz.2)) {fl wr:Bool} {rows:List (List AV)} (hg:∃c e f,w.heap[cb]?=some (.cells c e f))
 (k:Ic w S ρ c co st fl rows):HR (setB w cb (.cells c e fz)) S ρ (upd g b (.live st fl wr rows)) where
 at_:=fun b' cb' co' st' sz' h=>by
  have hs:=Ix.setB (w:=w) hb hS hg (.cells c e fz)
  by_cases hi:b'=b
  ·subst hi;rw[hb]at h;cases h
   obtain⟨_,_,_,ho⟩:=hg
   exact⟨c,e,fz,fl,rows,nG ho,hsz,k.sim hs,.inl ⟨⟨wr,by simp[upd]⟩,hS,hfz⟩⟩
  ·obtain⟨c',e',fz',fl',rows',h1,h2,h3,h4⟩:=H.at_ b' cb' co' st' sz' h
   have hne:cb'≠cb:=fun e=>hi (H.inj _ _ _ _ _ _ _ _ _ h (e▸hb))
   exact⟨c',e',fz',fl',rows',by rw[Cd hne];exact h1,h2,h3.sim hs,by simpa [upd,hi]using h4⟩
 dead:=fun b' h=>by
  by_cases hi:b'=b
  ·subst hi;rw[hb]at h;cases h
  ·simpa [upd,hi]using H.dead b' h
 inj:=H.inj
 old:=fun b h=>by have:=H.old b h;simpa [setB]using this
 lps:=fun b' l h=>by
  have hi:b'≠b:=fun q=>by subst q;rw[hb]at h;cases h
  have hs:=Ix.setB (w:=w) hb hS hg (.cells c e fz)
  obtain⟨r,ps,asg,body,tmps,st',h1,h2,h3⟩:=H.lps b' l h
  refine⟨r,ps,asg,body,tmps,st',?_,by simpa [upd,hi]using h2,h3.sim hs⟩
  obtain⟨_,_,_,ho⟩:=hg
  rw[Cd (fun q=>by subst q;rw[ho]at h1;cases h1;exact h3.cells)];exact h1
 linj:=H.linj
 lnS:=H.lnS
theorem HR.lt{w:World}{S:Nat→Prop}{ρ:Bq}{g:HF}(H:HR w S ρ g){b cb co st sz:Nat}(h:ρ b=.pl cb co st sz):cb<w.heap.size:=by
 obtain⟨c',e',fz,fl',rows',h1,_⟩:=H.at_ _ _ _ _ _ h
 exact(aAO.1 h1).1
theorem HR.apart{w:World}{S:Nat→Prop}{ρ:Bq}{g:HF}(H:HR w S ρ g){b b' l co st sz:Nat}(h:ρ b=.lp l)(h':ρ b'=.pl l co st sz):False:=by
 obtain⟨r,ps,asg,body,tmps,st',q1,_,q3⟩:=H.lps b l h
 obtain⟨_,_,_,_,_,q2,_⟩:=H.at_ _ _ _ _ _ h'
 rw[q1]at q2;cases q2;exact q3.cells
theorem jI.alloc{w:World}{S:Nat→Prop}{ρ:Bq}{g:HF}(H:HR w S ρ g){base:Nat}(hb:ρ base=.fresh)(E:Nat→Prop)(o:Obj)(r:RS):jI E w (w.alloc o) ρ (ρ.put base r):=fun b cb co st sz h _=>by
 refine⟨?_,Ez (H.lt h)⟩
 rw[Bq.put_other _ _ (fun e=>by rw[e,hb]at h;cases h)];exact h
theorem lQ.alloc{ρ:Bq}{base:Nat}{c:CB}{cb co st sz:Nat}:lQ [.new base c] ρ (ρ.put base (.pl cb co st sz)):=fun b=>by
 by_cases h:b=base
 ·subst h;rw[Bq.put_same];simp[Kz,As.id]
 ·rw[Bq.put_other _ _ h];simp[Kz,As.id];intro _ e;exact h e.symm
theorem lQ.cells{ρ:Bq}{b r o cb co st sz:Nat}{vs:List AV}(h:ρ b=.pl cb co st sz):lQ [.cells b r o vs] ρ ρ:=fun b'=>by
 simp[Kz,As.id];intro h' e;subst e;rw[h]at h';cases h'
theorem lQ.rebase{ρ:Bq}{b base cb co st sz cb' co' st' sz':Nat}{c c':CB}(h:ρ b=.pl cb co st sz):lQ [.put b c,.new base c'] ρ ((ρ.put b .dead).put base (.pl cb' co' st' sz')):=fun i=>by
 by_cases h1:i=base
 ·subst h1;rw[Bq.put_same];simp[Kz,As.id]
 ·rw[Bq.put_other _ _ h1]
  by_cases h2:i=b
  ·subst h2;rw[Bq.put_same];simp[Kz,As.id]
  ·rw[Bq.put_other _ _ h2];simp[Kz,As.id];intro _;exact⟨fun e=>h2 e.symm,fun e=>h1 e.symm⟩
theorem jI.setB{w:World}{S:Nat→Prop}{ρ:Bq}{g:HF}(H:HR w S ρ g){b cb co st sz:Nat}(h:ρ b=.pl cb co st sz){E:Nat→Prop}(hE:E b)(o:Obj):jI E w (Ev.setB w cb o) ρ ρ:=fun b' cb' co' st' sz' h' hn=>by
 refine⟨h',Cd fun e=>?_⟩
 subst e
 exact hn ((H.inj _ _ _ _ _ _ _ _ _ h h')▸hE)
section
variable {P:Program} {w:World} {S:Nat→Prop} {ρ:Bq}
theorem aOG{t:TypeId}{n:Nat}(h:mV P t=some n):∃i,P.info? t=some i∧i.size=n:=by
 simpa [mV]using h
theorem aM4{t:TypeId}{n:Nat}(h:byT P t=some n):∃i,P.info? t=some i∧i.bytes=n:=by
 simpa [byT]using h
theorem Ey{t:TypeId}{n:Nat}(h:mV P t=some n)(w:World):(sizeOf t).run P w=.ok n w:=by
 obtain⟨i,hi,rfl⟩:=aOG h
 simp[sizeOf,typeInfo,hi]
theorem ahZ{t:TypeId}{b:Bool}(h:aDV P t=some b)(w:World):(isAgg t).run P w=.ok b w:=by
 unfold aDV at h
 split at h<;>simp at h<;>subst h
 ·rename_i h';simp[isAgg,run_underlying h']
 ·rename_i h';simp[isAgg,run_underlying h']
 ·rename_i d h1 h2 h'
  simp only[isAgg,Sem.run_bind,run_underlying h',Result.andThen_ok]
  cases d<;>first|rfl|exact(h1 _ rfl).elim|exact(h2 _ _ rfl).elim
theorem mR{t:TypeId}{z:AV}(h:Lr P t=some z):∃(i:TypeInfo) (cz:Value),P.info? t=some i∧i.zero=some cz∧aHY cz=some z∧∀w,(zeroValue t).run P w=.ok cz w:=by
 simp only[Lr,acL]at h
 obtain⟨cz,⟨i,hi,hz⟩,hv⟩:=h
 exact⟨i,cz,hi,hz,hv,fun w=>by simp[zeroValue,typeInfo,hi,hz]⟩
theorem Ta{t:TypeId}{isA:Bool}(hA:aDV P t=some isA){cs:List AV}{vs:Array Value}(hl:cs.length=vs.size)
 (hc:∀(i:Nat) (x:AV) (v:Value),cs[i]?=some x→vs[i]?=some v→VR w S ρ x v) {off:Nat} {v:AV}
 (h:(if isA then(mV P t).map fun n=>AV.agg ((cs.drop off).take n)else cs[off]?)=some v):
 ∃cv,(part t vs off).run P w=.ok cv w∧VR w S ρ v cv:=by
 cases isA with
 |true=>
  simp only[if_true,aqD]at h
  obtain⟨n,hn,rfl⟩:=h
  refine⟨.agg (vs.extract off (off+n)),by simp[part,ahZ hA,Ey hn],.agg ?_ ?_⟩
  ·simp[hl];omega
  ·intro i x u hx hu
   rw[aEO,aAN]at hx
   split at hx
   ·rw[Array.getElem?_extract]at hu
    split at hu
    ·exact hc _ x u hx hu
    ·simp at hu
   ·simp at hx
 |false=>
  simp only[aR5,if_false]at h
  have hlt:off<vs.size:=by have:=(aAM.1 h).1;omega
  exact⟨vs[off],by simp[part,ahZ hA,hlt],hc off v _ h (by simp[hlt])⟩
theorem aL3{t:TypeId}{x:AV}{cx:Value}{f:Nat}{v:AV}(h:aO7 P t x f=some v)(hx:VR w S ρ x cx):
 ∃cv,(Instr.field t cx f).run P w=.ok cv w∧VR w S ρ v cv:=by
 unfold aO7 at h
 split at h
 ·rename_i fs cs hu
  simp only[acL]at h
  obtain⟨fd,hfd,isA,hA,h⟩:=h
  cases hx with
  | @agg _ _ vs hl hc=>
    obtain⟨cv,h1,h2⟩:=Ta hA hl hc h
    exact⟨cv,by simp[Instr.field,run_underlying hu,hfd,asAgg,h1],h2⟩
 ·simp at h
theorem Ig(b o n:Nat):(⟨b,o,none⟩:Addr).add n=⟨b,o+n,none⟩:=by
 unfold Addr.add;split
 ·rename_i h;subst h;rfl
 ·rfl
theorem aDZ{t:TypeId}{x:AV}{cx:Value}{f:Nat}{v:AV}(h:cP P t x f=some v)(hx:VR w S ρ x cx):
 ∃cv,(Instr.fieldAt t cx f).run P w=.ok cv w∧VR w S ρ v cv:=by
 unfold cP at h
 split at h
 ·rename_i fs hu
  simp only[acL]at h
  obtain⟨fd,hfd,n,hn,h⟩:=h
  split at h
  ·simp at h
  ·rename_i h0
   have key:∀a:Addr,(Instr.fieldAt t (.pointer (some a)) f).run P w=.ok (.pointer (some (a.add fd.offset))) w:=fun a=>by
    simp[Instr.fieldAt,run_underlying hu,hfd,Instr.sureAddr,fieldPlace,Ey hn,h0]
   split at h
   ·rename_i b r o
    simp at h;subst h
    cases hx with
    | @ptr _ _ _ _ cb co st sz hρ=>exact⟨_,key _,by rw[Ig,aLD];exact .ptr hρ⟩
    |ptrD hρ=>exact⟨_,key _,.ptrD hρ⟩
   ·rename_i cs
    split at h
    ·rename_i hle
     simp at h;subst h
     cases hx with
     |iptr g hs hc hv=>
      refine⟨_,key _,?_⟩
      rw[Ig]
      exact .iptr (fun i=>g (fd.offset+i)) hs (fun i x hx=>by rw[aAN]at hx;rw[aLD];exact hc _ x hx)
       (fun ρ' i x hx=>by rw[aAN]at hx;exact hv ρ' _ x hx)
    ·simp at h
   ·simp at h
 ·simp at h
theorem aDW{t:TypeId}{x i:AV}{cx ci:Value}{v:AV}(h:Yv P t x i=some v)(hx:VR w S ρ x cx)(hi:VR w S ρ i ci):
 ∃cv,(Instr.indexAt t cx ci).run P w=.ok cv w∧VR w S ρ v cv:=by
 unfold Yv at h
 split at h
 ·rename_i e st b r len k n hu
  split at h
  ·rename_i hc
   obtain⟨hsz,h0,hlt⟩:=hc
   simp at h;subst h
   cases hi
   cases hx with
   | @slr _ _ _ _ cb co _ sz cap a hρ hle ha=>
     rcases ha with ha|⟨rfl,ha⟩
     ·omega
     ·refine⟨.pointer (some ⟨cb,co+r*st+n.toNat*st,none⟩),?_,?_⟩
      ·simp[Instr.indexAt,asIntOf,run_underlying hu,h0,hlt,Ey hsz,Ig]
      ·have:co+r*st+n.toNat*st=co+(r+n.toNat)*st+0:=by rw[acR];omega
       rw[this];exact .ptr hρ
   | @slrD _ _ _ _ _ c a hρ hle=>
     exact⟨.pointer (some (a.add (n.toNat*st))),by simp[Instr.indexAt,asIntOf,run_underlying hu,h0,hlt,Ey hsz],.ptrD hρ⟩
  ·simp at h
 ·rename_i e st fl rows k n hu
  split at h
  ·rename_i hc
   obtain⟨hsz,h0⟩:=hc
   obtain⟨row,hrow,rfl⟩:=aqD.1 h
   have hlt:n.toNat<rows.length:=(aAM.1 hrow).1
   have hlt':n<rows.length:=by omega
   cases hi
   cases hx with
   | @imm _ _ _ _ a cap f hs hle hst hfl hcl hc hv=>
     rcases hs with rfl|⟨hs,hsp⟩
     ·simp at hrow
     obtain⟨ab,ao,as⟩:=a
     simp at hsp;subst hsp
     refine⟨.pointer (some ⟨ab,ao+n.toNat*st,none⟩),?_,?_⟩
     ·simp[Instr.indexAt,asIntOf,run_underlying hu,h0,hlt',Ey hsz,Ig]
     ·exact .iptr (f n.toNat) hs (fun j x hx=>hc _ _ j x hrow hx) (fun ρ' j x hx=>hv ρ' _ _ j x hrow hx)
  ·simp at h
 ·rename_i len e b r o k n hu
  obtain⟨m,hm,h⟩:=acL.1 h
  split at h
  ·rename_i hc
   obtain⟨h0,hlt,hm0⟩:=hc
   simp at h;subst h
   cases hi
   have key:∀a:Addr,(Instr.indexAt t (.pointer (some a)) (.int k n)).run P w=.ok (.pointer (some (a.add (n.toNat*m)))) w:=fun a=>by
    simp[Instr.indexAt,asIntOf,run_underlying hu,h0,hlt,Ey hm,Instr.sureAddr]
   cases hx with
   |ptr hρ=>exact⟨_,key _,by rw[Ig,aLD];exact .ptr hρ⟩
   |ptrD hρ=>exact⟨_,key _,.ptrD hρ⟩
  ·simp at h
 ·rename_i len e cs k n hu
  obtain⟨m,hm,h⟩:=acL.1 h
  split at h
  ·rename_i hc
   obtain⟨h0,hlt,hm0⟩:=hc
   simp at h;subst h
   cases hi
   have key:∀a:Addr,(Instr.indexAt t (.pointer (some a)) (.int k n)).run P w=.ok (.pointer (some (a.add (n.toNat*m)))) w:=fun a=>by
    simp[Instr.indexAt,asIntOf,run_underlying hu,h0,hlt,Ey hm,Instr.sureAddr]
   cases hx with
   |iptr g hs hc hv=>
    refine⟨_,key _,?_⟩
    rw[Ig]
    exact .iptr (fun i=>g (n.toNat*m+i)) hs (fun i x hx=>by rw[aAN]at hx;rw[aLD];exact hc _ x hx)
     (fun ρ' i x hx=>by rw[aAN]at hx;exact hv ρ' _ x hx)
  ·simp at h
 ·simp at h
theorem aOK{t:TypeId}{x i:AV}{cx ci:Value}{v:AV}(h:jT P t x i=some v)(hx:VR w S ρ x cx)(hi:VR w S ρ i ci):
 ∃cv,(Instr.index t cx ci).run P w=.ok cv w∧VR w S ρ v cv:=by
 unfold jT at h
 split at h
 ·rename_i s k n hu
  split at h
  ·rename_i h0
   obtain⟨b,hb,rfl⟩:=aqD.1 h
   cases hi
   cases hx with
   |str s=>
    have hb':s[n.toNat]?=some b:=by
     have h1:s.data[n.toNat]?=some b:=by simpa using hb
     have h2:n.toNat<s.data.size:=(aAO.1 h1).1
     have h3:=(aAO.1 h1).2
     have h4:n.toNat<s.size:=h2
     rw[getElem?_pos s n.toNat h4]
     exact congrArg some h3
    refine⟨.int .u8 b.toNat,?_,.int _ _⟩
    simp[Instr.index,asIntOf,run_underlying hu,h0,hb']
  ·simp at h
 ·rename_i len e cs k n hu
  simp only[acL]at h
  obtain⟨isA,hA,m,hm,h⟩:=h
  split at h
  ·rename_i hc
   cases hi
   cases hx with
   | @agg _ _ vs hl hv=>
     obtain⟨cv,h1,h2⟩:=Ta (P:=P) (off:=n.toNat*m) (v:=v) hA hl hv (by cases isA<;>simpa [hm]using h)
     exact⟨cv,by simp[Instr.index,asIntOf,run_underlying hu,hc,Ey hm,h1],h2⟩
  ·simp at h
 ·simp at h
theorem aTU{t:TypeId}{ts:Array TypeId}(ht:ts[0]?=some t){x:AV}{cx:Value}{ty:TypeId}{v:AV}(h:aKK P t x=some v)(hx:VR w S ρ x cx):
 ∃cv,(Builtin.len_ ts ty #[cx]).run P w=.ok cv w∧VR w S ρ v cv:=by
 unfold aKK at h
 split at h
 ·rename_i s hu;simp at h;subst h
  cases hx with
  |str s=>exact⟨.int .i64 s.size,by simp[Builtin.len_,ht,run_underlying hu,goInt],by simpa using VR.int _ _⟩
 ·rename_i hu;simp at h;subst h
  cases hx;exact⟨.int .i64 0,by simp[Builtin.len_,ht,run_underlying hu,goInt],.int _ _⟩
 ·rename_i hu;simp at h;subst h
  cases hx;exact⟨_,by simp[Builtin.len_,ht,run_underlying hu,goInt],.int _ _⟩
 ·rename_i hu;simp at h;subst h
  cases hx
  ·exact⟨_,by simp[Builtin.len_,ht,run_underlying hu,goInt],.int _ _⟩
  ·exact⟨_,by simp[Builtin.len_,ht,run_underlying hu,goInt],.int _ _⟩
 ·rename_i hu;simp at h;subst h
  exact⟨_,by simp[Builtin.len_,ht,run_underlying hu,goInt],.int _ _⟩
 ·simp at h
end
section
variable {P:Program} {w:World} {S:Nat→Prop} {ρ:Bq}
def OR(w:World)(S:Nat→Prop)(ρ:Bq):Option AV→Option Value→Prop
 |none,none=>True
 |some x,some v=>VR w S ρ x v
 |_,_=>False
theorem aDO{y:Nat}{x:AV}{cx:Value}{d n:Nat}(h:Uc y (some x) d=some n)(hx:VR w S ρ x cx)(code:BoundsCode)(y':Nat)(hy:y≤y'):
 n≤y∧(Instr.sliceBound cx y' code).run P w=.ok n w:=by
 cases x<;>simp[Uc]at h
 cases hx
 rename_i k i
 obtain⟨⟨h0,h1⟩,rfl⟩:=h
 refine⟨by omega,?_⟩
 have:i≤(y':Int):=by omega
 simp[Instr.sliceBound,asIntOf,h0,this]
theorem kY{isS:Bool}{len cap:Nat}(hlc:len≤cap){lo hi:Option AV}{clo chi:Option Value}(hlo:OR w S ρ lo clo)(hhi:OR w S ρ hi chi){l h:Nat}
 (eh:Uc len hi len=some h) (el:Uc h lo 0=some l):l≤h∧h≤len∧(Instr.sliceBounds isS len cap clo chi none).run P w=.ok (l,h,cap) w:=by
 have hh:h≤len∧(match chi with
  |some v=>Instr.sliceBound v cap (if isS then .sliceAcap else .sliceAlen)
  |none=>pure len:Sem Nat).run P w=.ok h w:=by
  cases hi with
  |none=>cases chi with
   |none=>simp[Uc]at eh;subst eh;exact⟨aC7 _,by simp⟩
   |some v=>exact hhi.elim
  |some x=>cases chi with
   |none=>exact hhi.elim
   |some v=>obtain⟨h1,h2⟩:=aDO (P:=P) eh hhi (if isS then .sliceAcap else .sliceAlen) cap hlc;exact⟨h1,h2⟩
 have hl:l≤h∧(match clo with
  |some v=>Instr.sliceBound v h .sliceB
  |none=>pure 0:Sem Nat).run P w=.ok l w:=by
  cases lo with
  |none=>cases clo with
   |none=>simp[Uc]at el;subst el;exact⟨Nat.zero_le _,by simp⟩
   |some v=>exact hlo.elim
  |some x=>cases clo with
   |none=>exact hlo.elim
   |some v=>exact aDO (P:=P) el hlo .sliceB h (aC7 _)
 refine⟨hl.1,hh.1,?_⟩
 have e1:=hh.2
 have e2:=hl.2
 cases chi<;>cases clo<;>simp_all[Instr.sliceBounds]
theorem aN9{t:TypeId}{x:AV}{cx:Value}{lo hi:Option AV}{clo chi:Option Value}{v:AV}(h:aAQ P t x lo hi=some v)(hx:VR w S ρ x cx)
 (hlo:OR w S ρ lo clo) (hhi:OR w S ρ hi chi):∃cv,(Instr.sliceAt t cx clo chi none).run P w=.ok cv w∧VR w S ρ v cv:=by
 unfold aAQ at h
 split at h
 ·rename_i s hu
  simp only[acL,aqD]at h
  obtain⟨h',eh,l,el,rfl⟩:=h
  cases hx with
  |str s=>
   obtain⟨h1,h2,h3⟩:=kY (P:=P) (isS:=false) (aC7 s.size) hlo hhi (by simpa using eh) el
   refine⟨.string (s.extract l h'),by simp[Instr.sliceAt,Instr.slice,run_underlying hu,h3],?_⟩
   have:(s.data.toList.drop l).take (h'-l)=(s.extract l h').data.toList:=by
    rw[ByteArray.data_extract]
    simp[Array.toList_extract,List.extract_eq_take_drop]
   rw[this];exact .str _
 ·rename_i e hu
  simp only[acL,aqD]at h
  obtain⟨n,hn,h',eh,l,el,rfl⟩:=h
  cases hx
  obtain⟨h1,h2,h3⟩:=kY (P:=P) (isS:=true) (aC7 0) hlo hhi eh el
  obtain rfl:h'=0:=by omega
  obtain rfl:l=0:=by omega
  exact⟨.slice none 0 0,by simp[Instr.sliceAt,Instr.slice,run_underlying hu,h3,Ey hn],.nils⟩
 ·rename_i e st fl rows hu
  simp only[acL]at h
  obtain⟨n,hn,h⟩:=h
  split at h
  ·rename_i hst;subst hst
   simp only[acL,aqD]at h
   obtain⟨h',eh,l,el,rfl⟩:=h
   cases hx with
   | @imm _ _ _ _ a cap f hs hle hw hfl hcl hc hv=>
     obtain⟨h1,h2,h3⟩:=kY (P:=P) (isS:=true) hle hlo hhi eh el
     have hlen:((rows.drop l).take (h'-l)).length=h'-l:=by simp;omega
     have hmem:∀r,r∈(rows.drop l).take (h'-l)→r∈rows:=fun r hr=>aID (aHM hr)
     refine⟨.slice (some (if cap=l then a else a.add (l*n))) (h'-l) (cap-l),?_,?_⟩
     ·simp[Instr.sliceAt,Instr.slice,run_underlying hu,h3,Ey hn]
      split<;>rfl
     ·suffices hh:VR w S ρ (.imm n fl ((rows.drop l).take (h'-l))) (.slice (some (if cap=l then a else a.add (l*n))) ((rows.drop l).take (h'-l)).length (cap-l)) by rw[hlen]at hh;exact hh
      have hsub:∀i r,((rows.drop l).take (h'-l))[i]?=some r→rows[l+i]?=some r:=fun i r hr=>by
       rw[aEO]at hr
       split at hr
       ·rwa[aAN]at hr
       ·simp at hr
      by_cases hcpl:cap=l
      ·have hemp:(rows.drop l).take (h'-l)=[]:=by apply aLE;omega
       rw[hemp]at *
       simp only[hcpl,if_true]
       exact .imm (fun _ _=>.nilFunc) (.inl rfl) (by simp) (by simp) (by simp) (by simp) (by simp) (by simp)
      ·rw[if_neg hcpl]
       rcases hs with hs|⟨hs,hsp⟩
       ·subst hs
        have hemp:(([]:List (List AV)).drop l).take (h'-l)=[]:=by simp
        rw[hemp]
        exact .imm (fun _ _=>.nilFunc) (.inl rfl) (by simp) (by simp) (by simp) (by simp) (by simp) (by simp)
       ·obtain⟨ab,ao,as⟩:=a
        simp at hsp;subst hsp
        rw[Ig]
        refine VR.imm (a:=⟨ab,ao+l*n,none⟩) (cap:=cap-l) (fun i j=>f (l+i) j) (.inr ⟨hs,rfl⟩) (by omega) (fun r hr=>hw r (hmem r hr)) (fun e r hr=>hfl e r (hmem r hr)) (fun r hr=>hcl r (hmem r hr)) (fun i r j x hr hx=>?_) (fun ρ' i r j x hr hx=>hv ρ' _ r j x (hsub i r hr) hx)
        have:=hc (l+i) r j x (hsub i r hr) hx
        simp only at this ⊢
        rw[show ao+l*n+i*n+j=ao+(l+i)*n+j by rw[acR];omega]
        exact this
  ·simp at h
 ·rename_i e st b r len hu
  simp only[acL]at h
  obtain⟨n,hn,h⟩:=h
  split at h
  ·rename_i hst;subst hst
   simp only[acL,aqD]at h
   obtain⟨h',eh,l,el,rfl⟩:=h
   have key:∀(a:Addr) (cap:Nat),len≤cap→l≤h'∧h'≤len∧(Instr.sliceAt t (.slice (some a) len cap) clo chi none).run P w=.ok (.slice (some (if cap=l then a else a.add (l*n))) (h'-l) (cap-l)) w:=fun a cap hle=>by
    obtain⟨h1,h2,h3⟩:=kY (P:=P) (isS:=true) hle hlo hhi eh el
    refine⟨h1,h2,?_⟩
    simp[Instr.sliceAt,Instr.slice,run_underlying hu,h3,Ey hn]
    split<;>rfl
   cases hx with
   | @slr _ _ _ _ cb co _ sz cap a hρ hle ha=>
     obtain⟨h1,h2,h3⟩:=key a cap hle
     refine⟨_,h3,.slr hρ (by omega) ?_⟩
     by_cases hcpl:cap=l
     ·exact .inl (by omega)
     ·right
      rw[if_neg hcpl]
      rcases ha with ha|⟨rfl,ha⟩
      ·omega
      ·refine⟨by rw[Ig,acR];simp;omega,?_⟩
       have:r+l+(cap-l)=r+cap:=by omega
       rw[this];exact ha
   | @slrD _ _ _ _ _ c a hρ hle=>
     obtain⟨h1,h2,h3⟩:=key a c hle
     exact⟨_,h3,.slrD hρ (by omega)⟩
  ·simp at h
 ·simp at h
theorem aYT{op:UnOp}{x v:AV}{cx:Value}(h:aUn op x=some v)(hx:VR w S ρ x cx):∃cv,(Op.unary op cx).run P w=.ok cv w∧VR w S ρ v cv:=by
 unfold aUn at h
 split at h<;>simp at h<;>subst h<;>cases hx
 ·exact⟨_,by simp[Op.unary,Op.intArith],.int _ _⟩
 ·exact⟨_,by simp[Op.unary],.bool _⟩
theorem aQU{s d:TypeId}{x v:AV}{cx:Value}(h:a1E P s d x=some v)(hx:VR w S ρ x cx):∃cv,(convert s d cx).run P w=.ok cv w∧VR w S ρ v cv:=by
 unfold a1E at h
 split at h<;>simp at h<;>subst h
 ·rename_i h1 h2;cases hx
  exact⟨_,by simp[convert,run_underlying h1,run_underlying h2,Conv.intToInt],.int _ _⟩
 ·rename_i h1 h2;cases hx
  exact⟨_,by simp[convert,run_underlying h1,run_underlying h2],.str _⟩
theorem an5{x y v:AV}{cx cy:Value}(h:aFE x y=some v)(hx:VR w S ρ x cx)(hy:VR w S ρ y cy):∃cv,(Builtin.min2 cx cy).run P w=.ok cv w∧VR w S ρ v cv:=by
 unfold aFE at h
 split at h<;>simp at h
 subst h;cases hx;cases hy
 exact⟨_,by simp[Builtin.min2],.int _ _⟩
theorem ao9{x y v:AV}{cx cy:Value}(h:aF7 x y=some v)(hx:VR w S ρ x cx)(hy:VR w S ρ y cy):∃cv,(Builtin.max2 cx cy).run P w=.ok cv w∧VR w S ρ v cv:=by
 unfold aF7 at h
 split at h<;>simp at h
 subst h;cases hx;cases hy
 exact⟨_,by simp[Builtin.max2],.int _ _⟩
theorem aCX(s:ByteArray):s.toList=s.data.toList:=by
 rw[ByteArray.toList_eq]
theorem aUG{op:BinOp}{k:IntKind}{a b:Int}{v:AV}(h:Nl op k a b=some v)(hs:op≠.shl)(hs':op≠.shr){t:TypeId}:∃cv,(binOp op t (.int k a) (.int k b)).run P w=.ok cv w∧VR w S ρ v cv:=by
 cases op<;>simp[Nl]at h<;>first
  |exact(hs rfl).elim
  |exact(hs' rfl).elim
  |(subst h;exact⟨_,by simp[binOp,Op.intArith,Op.intCmp,Op.intBits],VR.int _ _⟩)
  |(subst h;exact⟨_,by simp[binOp,Op.intArith,Op.intCmp,Op.intBits],VR.bool _⟩)
  |(obtain⟨h0,rfl⟩:=h;exact⟨_,by simp[binOp,Op.intDiv,h0],VR.int _ _⟩)
end
section
variable {P:Program} {w:World} {S:Nat→Prop} {ρ:Bq}
theorem aM5{t:TypeId}{fs:Array Field}(h:P.underlying t=some (.struct fs)):P.fieldsOf t=fs:=by
 simp[Program.fieldsOf,h]
theorem xJ:∀(d:Nat) {t:TypeId} {x y:AV} {cx cy:Value} {r:Bool},aEq P d t x y=some r→VR w S ρ x cx→VR w S ρ y cy→∀D,d≤D→(Op.equalIn D t cx cy).run P w=.ok r w
 |0,_,_,_,_,_,_,h,_,_=>by simp[aEq]at h
 |d+1,t,x,y,cx,cy,r,h,hx,hy=>by
  intro D hD
  obtain⟨D,rfl⟩:∃D',D=D'+1:=⟨D-1,by omega⟩
  unfold aEq at h
  split at h
  ·rename_i hu;simp at h;subst h;cases hx;cases hy;simp[Op.equalIn,run_underlying hu]
  ·rename_i hu;simp at h;obtain⟨rfl,rfl⟩:=h;cases hx;cases hy;simp[Op.equalIn,run_underlying hu]
  ·rename_i hu;simp at h;subst h;cases hx;cases hy
   rw[run_equalIn_string _ _ _ _ _ hu];simp[aCX]
  ·rename_i fs xs ys hu
   split at h
   ·simp at h
   ·rename_i hst
    have hst':P.stoodInHeld t=false:=by simpa using hst
    cases hx with
    | @agg _ _ vx hlx hvx=>
    cases hy with
    | @agg _ _ vy hly hvy=>
    have hfo:=aM5 hu
    rw[run_equalIn_agg w D t vx vy (by rw[hfo];exact hu) hst',hfo]
    have key:∀(l:List Field) (r:Bool),aEq.eqL P (aEq P d) xs ys l=some r→(Op.eqFields D vx vy l).run P w=.ok r w:=by
     intro l
     induction l with
     |nil=>intro r h;simp[aEq.eqL]at h;subst h;simp[Op.eqFields]
     |cons f l ih=>
      intro r h
      unfold aEq.eqL at h
      split at h
      ·rename_i hn;simp[Op.eqFields,hn,ih r h]
      ·rename_i hn
       simp only[acL]at h
       obtain⟨a,ha,b,hb,q,hq,h⟩:=h
       unfold aEq.partOf at ha hb
       simp only[acL]at ha hb
       obtain⟨isA,hA,ha⟩:=ha
       obtain⟨isA',hA',hb⟩:=hb
       obtain⟨ca,h1,h2⟩:=Ta hA hlx hvx ha
       obtain⟨cb,h3,h4⟩:=Ta hA' hly hvy hb
       have h5:=xJ d hq h2 h4 D (by omega)
       cases q with
       |true=>simp at h;simp[Op.eqFields,hn,h1,h3,h5,ih r h]
       |false=>simp at h;subst h;simp[Op.eqFields,hn,h1,h3,h5]
    exact key _ _ h
  ·rename_i n e xs ys hu
   obtain⟨sz,hsz,h⟩:=acL.1 h
   obtain⟨ie,hie,rfl⟩:=aqD.1 hsz
   have hce:P.cellsOf e=ie.size:=by simp[Program.cellsOf,hie]
   cases hx with
   | @agg _ _ vx hlx hvx=>
   cases hy with
   | @agg _ _ vy hly hvy=>
   rw[run_equalIn_array w D vx vy hu hie,hce]
   have key:∀(l:List Nat) (r:Bool),aEq.eqA P (aEq P d e) e ie.size xs ys l=some r→(Op.eqItems D e ie.size vx vy l).run P w=.ok r w:=by
    intro l
    induction l with
    |nil=>intro r h;simp[aEq.eqA]at h;subst h;simp[Op.eqItems]
    |cons i l ih=>
     intro r h
     unfold aEq.eqA at h
     simp only[acL]at h
     obtain⟨a,ha,b,hb,q,hq,h⟩:=h
     unfold aEq.partOf at ha hb
     simp only[acL]at ha hb
     obtain⟨isA,hA,ha⟩:=ha
     obtain⟨isA',hA',hb⟩:=hb
     obtain⟨ca,h1,h2⟩:=Ta hA hlx hvx ha
     obtain⟨cb,h3,h4⟩:=Ta hA' hly hvy hb
     have h5:=xJ d hq h2 h4 D (by omega)
     cases q with
     |true=>simp at h;simp[Op.eqItems,h1,h3,h5,ih r h]
     |false=>simp at h;subst h;simp[Op.eqItems,h1,h3,h5]
   exact key _ _ h
  all_goals first
   |(simp at h;done)
   |(rename_i hu;simp at h;subst h;cases hx<;>cases hy<;>simp[Op.equalIn,run_underlying hu])
theorem aTM{op:BinOp}{a b:ByteArray}{v:AV}(h:aK3 op a.data.toList b.data.toList=some v){t:TypeId}:∃cv,(binOp op t (.string a) (.string b)).run P w=.ok cv w∧VR w S ρ v cv:=by
 cases op<;>simp[aK3]at h<;>first
  |(subst h;exact⟨_,by simp[binOp,Op.stringOp,aCX],VR.bool _⟩)
  |skip
 obtain⟨hl,rfl⟩:=h
 refine⟨.string (a++b),?_,?_⟩
 ·have:¬((a.size+b.size:Nat):Int)>IntKind.i64.max:=by
   have:IntKind.i64.max=9223372036854775807:=by decide
   rw[this];omega
  simp[binOp,Op.stringOp]
  have h2:IntKind.i64.max=9223372036854775807:=by decide
  omega
 ·have:a.data.toList++b.data.toList=(a++b).data.toList:=by simp
  rw[this];exact .str _
theorem aLP{op:BinOp}{t:TypeId}{x y:Operand}{a b:Value}(h1:∀xs ys,a=.agg xs→b≠.agg ys)(h2:a≠.nilIface):(eqGuard op t x y a b).run P w=.ok () w:=by
 cases a with
 |nilIface=>exact(h2 rfl).elim
 |agg xs=>cases b with
  |agg ys=>exact(h1 _ _ rfl rfl).elim
  |_=>cases op<;>simp[eqGuard]
 |_=>cases op<;>simp[eqGuard]
theorem aH9{t:TypeId}{x y:AV}{cx cy:Value}{r:Bool}(hr:aEq P 12 t x y=some r)(hx:VR w S ρ x cx)(hy:VR w S ρ y cy)
 (ni:∀k a k' b,x=.int k a→y≠.int k' b) (ns:∀a b,x=.str a→y≠.str b) (na:∀a b,x=.agg a→y≠.agg b):
 (∀xs ys,cx=.agg xs→cy≠.agg ys)∧cx≠.nilIface∧(binOp .eql t cx cy).run P w=.ok (.bool r) w∧(binOp .neq t cx cy).run P w=.ok (.bool !r) w:=by
 have he:=xJ 12 hr hx hy 10000 (by omega)
 unfold aEq at hr
 split at hr
 all_goals first
  |exact(ni _ _ _ _ rfl rfl).elim
  |exact(ns _ _ rfl rfl).elim
  |exact(na _ _ rfl rfl).elim
  |(simp at hr;done)
  |(cases hx<;>cases hy<;>exact⟨by simp,by simp,by simp[binOp,Op.equal,Op.maxDepth,he],by simp[binOp,Op.equal,Op.maxDepth,he]⟩)
theorem aUA{op:BinOp}{t:TypeId}{x y v:AV}{cx cy:Value}{ox oy:Operand}(h:Qm P op t x y=some v)(hx:VR w S ρ x cx)(hy:VR w S ρ y cy):
 ∃cv,(do eqGuard op t ox oy cx cy;binOp op t cx cy:Sem Value).run P w=.ok cv w∧VR w S ρ v cv:=by
 have plain:∀(cv:Value),(∀xs ys,cx=.agg xs→cy≠.agg ys)→cx≠.nilIface→(binOp op t cx cy).run P w=.ok cv w→
  (do eqGuard op t ox oy cx cy;binOp op t cx cy:Sem Value).run P w=.ok cv w:=fun cv h1 h2 h3=>by
  simp[aLP h1 h2,h3]
 unfold Qm at h
 split at h
 ·split at h
  ·simp at h
  ·rename_i hb;simp at h;subst h;cases hx;cases hy
   exact⟨_,plain _ (by simp) (by simp) (by simp[binOp,Op.shift,hb]),.int _ _⟩
 ·split at h
  ·simp at h
  ·rename_i hb;simp at h;subst h;cases hx;cases hy
   exact⟨_,plain _ (by simp) (by simp) (by simp[binOp,Op.shift,hb]),.int _ _⟩
 ·rename_i hs hs'
  split at h
  ·rename_i hk;subst hk
   cases hx;cases hy
   obtain⟨cv,h1,h2⟩:=aUG (P:=P) (w:=w) (S:=S) (ρ:=ρ) (t:=t) h (fun e=>hs e) (fun e=>hs' e)
   exact⟨cv,plain cv (by simp) (by simp) h1,h2⟩
  ·simp at h
 ·cases hx;cases hy
  obtain⟨cv,h1,h2⟩:=aTM (P:=P) (w:=w) (S:=S) (ρ:=ρ) (t:=t) h
  exact⟨cv,plain cv (by simp) (by simp) h1,h2⟩
 ·split at h
  ·simp at h
  ·rename_i hg
   obtain⟨r,hr,rfl⟩:=aqD.1 h
   have he:=xJ 12 hr hx hy 10000 (by omega)
   cases hx;cases hy
   refine⟨.bool r,?_,.bool _⟩
   simp[run_eqGuard_agg _ _ _ _ _ _ _ (by simpa using hg),run_eql_struct,he]
 ·split at h
  ·simp at h
  ·rename_i hg
   obtain⟨r,hr,rfl⟩:=aqD.1 h
   have he:=xJ 12 hr hx hy 10000 (by omega)
   cases hx;cases hy
   refine⟨.bool !r,?_,.bool _⟩
   simp[run_eqGuard_agg _ _ _ _ _ _ _ (by simpa using hg),run_neq_struct,he]
 ·rename_i n1 n2 n3
  obtain⟨r,hr,rfl⟩:=aqD.1 h
  obtain⟨h1,h2,h3,_⟩:=aH9 hr hx hy (fun _ _ _ _ e e'=>n1 _ _ _ _ e e') (fun _ _ e e'=>n2 _ _ e e') (fun _ _ e e'=>n3 _ _ e e')
  exact⟨.bool r,plain _ h1 h2 h3,.bool _⟩
 ·rename_i n1 n2 n3
  obtain⟨r,hr,rfl⟩:=aqD.1 h
  obtain⟨h1,h2,_,h3⟩:=aH9 hr hx hy (fun _ _ _ _ e e'=>n1 _ _ _ _ e e') (fun _ _ e e'=>n2 _ _ e e') (fun _ _ e e'=>n3 _ _ e e')
  exact⟨.bool !r,plain _ h1 h2 h3,.bool _⟩
 ·simp at h
end
section
variable {P:Program} {w:World} {S:Nat→Prop} {ρ:Bq}
theorem Qi(cs vs:List AV)(o:Nat):(Gf cs o vs).length=cs.length:=by
 simp[Gf];omega
theorem Py(cs vs:List AV)(o j:Nat):(Gf cs o vs)[j]?=if o≤j∧j<o+vs.length∧j<cs.length then vs[j-o]? else cs[j]?:=by
 by_cases hL:j<cs.length
 ·unfold Gf
  rw[aOD]
  by_cases h1:j<o
  ·have:j<(cs.take o).length:=by simp;omega
   rw[if_pos this,if_neg (by omega),aEO,if_pos h1]
  ·have ht:(cs.take o).length=o:=by simp;omega
   rw[if_neg (by omega),ht,aOD]
   by_cases h2:j<o+vs.length
   ·have:j-o<(vs.take (cs.length-o)).length:=by simp;omega
    rw[if_pos this,if_pos (by omega),aEO,if_pos (by omega)]
   ·have h3:(vs.take (cs.length-o)).length=vs.length:=by simp;omega
    rw[if_neg (by omega),if_neg (by omega),h3,aAN]
    congr 1;omega
 ·rw[if_neg (by omega),aKM (by rw[Qi];omega),aKM (by omega)]
theorem acK{cs vs:List AV}{o:Nat}(_:o+vs.length≤cs.length):(Gf cs o vs).length=cs.length:=Qi cs vs o
theorem acA{cs vs:List AV}{o:Nat}(h:o+vs.length≤cs.length)(j:Nat):(Gf cs o vs)[j]?=if o≤j∧j<o+vs.length then vs[j-o]? else cs[j]?:=by
 rw[Py]
 by_cases h1:o≤j∧j<o+vs.length
 ·rw[if_pos h1,if_pos (by omega)]
 ·rw[if_neg h1,if_neg (by omega)]
theorem aNY{cs xs:List AV}{cv:Array Value}{vs:List Value}{o:Nat}(hc:LR w S ρ cs cv.toList)(hv:LR w S ρ xs vs)(h:o+xs.length≤cs.length):
 LR w S ρ (Gf cs o xs) (Ym cv o vs).toList:=by
 have hcl:cs.length=cv.size:=by simpa using hc.1
 have hvl:=hv.1
 refine⟨by rw[acK h];simp[aI,hcl],fun i x v hx hv'=>?_⟩
 rw[acA h]at hx
 rw[aER,abY _ _ _ _ (by omega)]at hv'
 by_cases h1:o≤i∧i<o+xs.length
 ·rw[if_pos h1]at hx;rw[if_pos (by omega)]at hv';exact hv.2 _ x v hx hv'
 ·rw[if_neg h1]at hx;rw[if_neg (by omega)]at hv';exact hc.2 _ x v hx (by rw[aER];exact hv')
theorem axZ:∀(vs:List Value) (cs:Array Value) (off j:Nat),(vs.zipIdx j).foldl (fun cs (c,j)=>cs.setIfInBounds (off+j) c) cs=Ym cs (off+j) vs
 | [],_,_,_=>rfl
 |v::vs,cs,off,j=>by
  rw[List.zipIdx_cons,List.foldl_cons,axZ vs];rfl
theorem acB{Om:Nat→Option (Nat × Nat)}:∀{parts:List (Nat × AV)} {cparts:List (Nat × Value)} {cs r:List AV} {ccs:Array Value},Zj Om cs parts=some r→LR w S ρ cs ccs.toList→
 parts.length=cparts.length→(∀(i:Nat) p q,parts[i]?=some p→cparts[i]?=some q→p.1=q.1∧VR w S ρ p.2 q.2)→∃cr,Instr.fill Om ccs cparts=some cr∧LR w S ρ r cr.toList
 | [],cparts,cs,r,ccs,h,hl,hlen,_=>by
   simp[Zj]at h;subst h
   cases cparts with
   |nil=>exact⟨ccs,rfl,hl⟩
   |cons _ _=>simp at hlen
 |(i,v)::parts,cparts,cs,r,ccs,h,hl,hlen,hp=>by
  cases cparts with
  |nil=>simp at hlen
  |cons q cparts=>
   obtain⟨i',cv⟩:=q
   obtain⟨rfl,hv⟩:=hp 0 _ _ rfl rfl
   simp only at hv
   unfold Zj at h
   split at h
   ·simp at h
   ·rename_i off size hpl
    split at h
    ·rename_i hc
     have hcells:=hv.cells
     have hsz:cv.cells.size=size:=by have:=hcells.1;simp at this;omega
     have hcl:cs.length=ccs.size:=by simpa using hl.1
     have hl':=aNY hl hcells (o:=off) (by omega)
     obtain⟨cr,h1,h2⟩:=acB (cparts:=cparts) h hl' (by simpa using hlen) (fun j p q hp1 hq1=>hp (j+1) p q (by simpa using hp1) (by simpa using hq1))
     refine⟨cr,?_,h2⟩
     unfold Instr.fill
     simp only[hpl]
     rw[if_neg (by simp;omega)]
     rw[←h1]
     congr 1
     rw[←Array.foldl_toList,Array.toList_zipIdx]
     exact axZ cv.cells.toList ccs off 0
    ·simp at h
theorem adW{tmps:List AV}{a:Act}(T:TR w S ρ tmps a.tmps):∀{ps:List (Nat × Operand)} {vs:List AV},Et tmps (ps.map (·.2))=some vs→
 (oU ps vs).length=(ps.map fun p=>(p.1,a.eval p.2)).length∧∀(i:Nat) p q,(oU ps vs)[i]?=some p→(ps.map fun p=>(p.1,a.eval p.2))[i]?=some q→p.1=q.1∧VR w S ρ p.2 q.2
 | [],vs,h=>by simp[Et]at h;subst h;simp[oU]
 |(i,x)::ps,vs,h=>by
  simp only[aOZ,Et,acL,aqD]at h
  obtain⟨v,hv,l,hl,rfl⟩:=h
  obtain⟨h1,h2⟩:=adW T hl
  refine⟨by simp only[oU,aOZ,aR6,h1],fun j p q hp hq=>?_⟩
  cases j with
  |zero=>simp[oU]at hp hq;subst hp hq;exact⟨rfl,Bl T hv⟩
  |succ j=>simp only[oU,aOZ,aRG]at hp hq;exact h2 j p q hp hq
theorem aOQ(fs:List Field)(h:∀f∈fs,∃i,P.info? f.type=some i):
 (fs.mapM fun f=>do pure (f.offset,←sizeOf f.type):Sem (List (Nat × Nat))).run P w=.ok (Zx P fs) w:=by
 induction fs with
 |nil=>simp[Zx]
 |cons f fs ih=>
  obtain⟨i,hi⟩:=h f (aHJ ..)
  have ih':=ih (fun f hf=>h f (aM9 _ hf))
  have hsz:mV P f.type=some i.size:=by simp[mV,hi]
  rw[List.mapM_cons]
  simp only[Sem.run_bind,Sem.run_pure,Ey hsz,Result.andThen_ok,ih']
  simp[Zx,Program.cellsOf,hi]
theorem aL1{t:TypeId}{parts:List (Nat × AV)}{cparts:Array (Nat × Value)}{v:AV}(h:kB P t parts=some v)
 (hlen:parts.length=cparts.toList.length) (hp:∀(i:Nat) p q,parts[i]?=some p→cparts.toList[i]?=some q→p.1=q.1∧VR w S ρ p.2 q.2):
 ∃cv,(Instr.build t cparts).run P w=.ok cv w∧VR w S ρ v cv:=by
 unfold kB at h
 obtain⟨z,hz,h⟩:=acL.1 h
 obtain⟨i,cz,hi,hiz,hov,hrun⟩:=mR hz
 have hzc:LR w S ρ (Bd z) cz.cells.toList:=(Rr hov).cells
 split at h
 ·rename_i fs hu
  split at h
  ·rename_i hall
   obtain⟨r,hr,rfl⟩:=aqD.1 h
   obtain⟨cr,h1,h2⟩:=acB hr hzc hlen hp
   refine⟨.agg cr,?_,.agg (by simpa using h2.1) (fun i x v hx hv=>h2.2 i x v hx (by simpa using hv))⟩
   have hm:(fs.mapM fun f=>do pure (f.offset,←sizeOf f.type):Sem (Array (Nat × Nat))).run P w=.ok (Zx P fs.toList).toArray w:=by
    have:=aOQ (P:=P) (w:=w) fs.toList (fun f hf=>by
     have:=aAP.1 hall f hf
     exact Option.isSome_iff_exists.1 this)
    rw[Array.mapM_eq_mapM_toList,Sem.run_map,this];rfl
   unfold Instr.build
   simp only[Sem.run_bind,hrun,Result.andThen_ok,run_underlying hu,hm]
   have h1':Instr.fill (fun i=>(Zx P fs.toList).toArray[i]?) cz.cells cparts.toList=some cr:=by simpa using h1
   simp only[h1',Sem.run_pure]
  ·simp at h
 ·rename_i n e hu
  obtain⟨s,hs,h⟩:=acL.1 h
  obtain⟨r,hr,rfl⟩:=aqD.1 h
  obtain⟨cr,h1,h2⟩:=acB hr hzc hlen hp
  exact⟨.agg cr,by simp[Instr.build,hrun,run_underlying hu,Ey hs,h1],.agg (by simpa using h2.1) (fun i x v hx hv=>h2.2 i x v hx (by simpa using hv))⟩
 ·simp at h
end
section
variable {P:Program} {w:World} {S:Nat→Prop} {ρ:Bq} {g:HF}
def ayL(w:World)(b off:Nat)(vs:List Value):Prop:=∀(j:Nat) (v:Value),vs[j]?=some v→w.cell? ⟨b,off+j,none⟩=some v
theorem ayL.drop{b off:Nat}{vs:List Value}(h:ayL w b off vs)(n:Nat):ayL w b (off+n) (vs.drop n):=fun j v hv=>by
 rw[aAN]at hv;rw[aLD];exact h _ v hv
theorem ayL.take{b off:Nat}{vs:List Value}(h:ayL w b off vs)(n:Nat):ayL w b off (vs.take n):=fun j v hv=>by
 rw[aEO]at hv
 split at hv
 ·exact h j v hv
 ·simp at hv
theorem aJL(H:HR w S ρ g){b r:Nat}{cs:List AV}(h:al5 g b r=some cs){o:Nat}{cp:Value}(hp:VR w S ρ (.ptr b r o) cp):
 ∃(cb off:Nat) (vals:List Value),cp=.pointer (some ⟨cb,off+o,none⟩)∧LR w S ρ cs vals∧ayL w cb off vals:=by
 cases hp with
 | @ptr _ _ _ _ cb co st sz hρ=>
   obtain⟨c,e,fz,fl,rows,h1,h2,h3,h4⟩:=H.at_ b cb co st sz hρ
   have hr:rows[r]?=some cs:=by
    rcases h4 with⟨⟨wr,h4⟩,_⟩|⟨h4,_⟩<;>simpa [al5,h4]using h
   have hlen:=h3.wide cs (aE9 hr)
   have hlt:r<rows.length:=(aAM.1 hr).1
   have hin:co+r*st+st≤c.size:=by
    have h5:=h3.len
    have h6:(r+1)*st≤rows.length*st:=aCF _ hlt
    rw[acR]at h6;omega
   refine⟨cb,co+r*st,(c.toList.drop (co+r*st)).take st,rfl,⟨by simp;omega,fun i x v hx hv=>?_⟩,fun j v hv=>?_⟩
   ·obtain⟨v',h5,h6⟩:=h3.cell r cs i x hr hx
    rw[aEO]at hv
    split at hv
    ·rw[aAN,aER,h5]at hv;cases hv;exact h6
    ·simp at hv
   ·rw[aEO]at hv
    split at hv
    ·rw[aAN,aER]at hv;rw[azG h1];exact hv
    ·simp at hv
 |ptrD hρ=>simp[al5,H.dead b hρ]at h
theorem Yh{b off:Nat}{vs:List Value}(h:ayL w b off vs):(loadCells ⟨b,off,none⟩ vs.length).run P w=.ok vs.toArray w:=
 run_loadCells_list w ⟨b,off,none⟩ vs (fun j v hv=>by rw[Ig];exact h j v hv)
theorem aMC{t:TypeId}{isA:Bool}(hA:aDV P t=some isA){n:Nat}(hn:mV P t=some n){b off:Nat}{vs:List Value}(h:ayL w b off vs)(hl:if isA then vs.length=n else 0<vs.length):
 (loadVar t ⟨b,off,none⟩).run P w=.ok (if isA then .agg vs.toArray else vs.headD undef) w:=by
 cases isA with
 |true=>
  simp at hl;subst hl
  simp[loadVar,ahZ hA,Ey hn,Yh h]
 |false=>
  cases vs with
  |nil=>simp at hl
  |cons v vs=>
   have:=h 0 v rfl
   simp at this
   simp[loadVar,ahZ hA,run_load,this]
theorem LR.toAgg{cs:List AV}{vs:List Value}(h:LR w S ρ cs vs):VR w S ρ (.agg cs) (.agg vs.toArray):=.agg (by simp[h.1]) (fun i x v hx hv=>h.2 i x v hx (by simpa using hv))
theorem aGA(H:HR w S ρ g){t:TypeId}{p:AV}{cp:Value}{d:Kx}(h:iG P g t p=some d)(hp:VR w S ρ p cp):
 ∃cv,(Instr.loadAt t cp).run P w=.ok cv w∧VR w S ρ d.v cv∧d.es=[]:=by
 unfold iG at h
 simp only[acL]at h
 obtain⟨isA,hA,n,hn,h⟩:=h
 have fin:∀{b off:Nat} {cs:List AV} {vs:List Value},LR w S ρ cs vs→ayL w b off vs→(if isA then cs.length=n else 0<cs.length)→cp=.pointer (some ⟨b,off,none⟩)→
  d.v=(if isA then .agg cs else cs.headD (.tup []))→d.es=[]→∃cv,(Instr.loadAt t cp).run P w=.ok cv w∧VR w S ρ d.v cv∧d.es=[]:=by
  intro b off cs vs hlr hl hlen hcp hv he
  have hl':=aMC (P:=P) hA hn hl (by rw[←hlr.1];exact hlen)
  refine⟨_,by rw[hcp];simp[Instr.loadAt,Instr.sureAddr,hl'];rfl,?_,he⟩
  rw[hv]
  cases isA with
  |true=>exact hlr.toAgg
  |false=>
   cases cs with
   |nil=>simp at hlen
   |cons x cs=>obtain⟨v,vs',rfl,h1,_⟩:=hlr.cons_inv;exact h1
 split at h
 ·rename_i cs
  split at h
  ·rename_i hle
   simp at h;subst h
   cases hp with
   |iptr f hs hc hv=>
    have hlr:LR w S ρ cs ((aC6 cs.length).map f):=⟨by simp,fun i x v hx hv'=>by
     have hi:i<cs.length:=(aAM.1 hx).1
     simp[aPA hi]at hv';subst hv';exact hv ρ i x hx⟩
    have hl:ayL w _ _ ((aC6 cs.length).map f):=fun j v hv'=>by
     by_cases hj:j<cs.length
     ·simp[aPA hj]at hv';subst hv';exact hc j _ (acZ hj)
     ·have:(aC6 cs.length)[j]?=none:=by simp;omega
      simp[this]at hv'
    exact fin (hlr.take n) (hl.take n) (by simp;omega) rfl (by simp) rfl
  ·simp at h
 ·rename_i b r o
  obtain⟨cs,hr,h⟩:=acL.1 h
  split at h
  ·rename_i hle
   simp at h;subst h
   obtain⟨cb,off,vals,h1,h2,h3⟩:=aJL H hr hp
   exact fin ((h2.drop o).take n) ((h3.drop o).take n) (by simp;omega) h1 (by simp) rfl
  ·simp at h
 ·rename_i c cs
  simp at h;subst h
  cases hp with
  |iptr f hs hc hv=>
   have hl:ayL w _ _ [f 0]:=fun j v hv'=>by
    cases j with
    |zero=>simp at hv';subst hv';exact hc 0 c rfl
    |succ j=>simp at hv'
   exact fin (cs:=[c]) (LR.cons (hv ρ 0 c rfl) .nil) hl (by simp) rfl (by simp) rfl
 ·rename_i b r o
  obtain⟨cs,hr,h⟩:=acL.1 h
  obtain⟨x,hx,rfl⟩:=aqD.1 h
  obtain⟨cb,off,vals,h1,h2,h3⟩:=aJL H hr hp
  have ho:o<cs.length:=(aAM.1 hx).1
  refine fin (h2.drop o) (h3.drop o) (by simp;omega) h1 ?_ rfl
  simp[List.head?_drop,hx]
 ·simp at h
end
section
variable {P:Program} {w:World} {S:Nat→Prop} {ρ:Bq} {g:HF}
theorem aIM{i r st j:Nat}(h:i≠r)(hj:j<st):i*st+j<r*st∨(r+1)*st≤i*st+j:=by
 rcases Nat.lt_or_gt_of_ne h with h|h
 ·left
  have:(i+1)*st≤r*st:=aCF _ h
  rw[acR]at this;omega
 ·right
  have:(r+1)*st≤i*st:=aCF _ h
  omega
theorem atS{cs xs:List AV}{o:Nat}{x:AV}(h:x∈Gf cs o xs):x∈cs∨x∈xs:=by
 simp only[Gf,aIC]at h
 rcases h with h|h|h
 ·exact .inl (aHM h)
 ·exact .inr (aHM h)
 ·exact .inl (aID h)
theorem Ic.set{c:Array Value}{co st:Nat}{fl:Bool}{rows:List (List AV)}(k:Ic w S ρ c co st fl rows){r o:Nat}{cs xs:List AV}{vs:List Value}(hr:rows[r]?=some cs)
 (ho:o+xs.length≤cs.length) (hx:LR w S ρ xs vs) (hc:xs.all AV.isCell=true):
 Ic w S ρ (Ym c (co+r*st+o) vs) co st (fl&&xs.all AV.flat) (rows.set r (Gf cs o xs)):=by
 have hcl:cs.length=st:=k.wide cs (aE9 hr)
 have hlt:r<rows.length:=(aAM.1 hr).1
 have hin:co+r*st+st≤c.size:=by
  have h5:=k.len
  have h6:(r+1)*st≤rows.length*st:=aCF _ hlt
  rw[acR]at h6;omega
 have hvl:=hx.1
 have mem:∀row,row∈rows.set r (Gf cs o xs)→row∈rows∨row=Gf cs o xs:=fun row h=>by
  rcases aPH h with h|h
  ·exact .inl h
  ·exact .inr h
 refine⟨by simpa [aI]using k.len,fun row h=>?_,fun hf row h x hx'=>?_,fun i row j x h hj=>?_,fun row h x hx'=>?_⟩
 ·rcases mem row h with h|rfl
  ·exact k.wide row h
  ·rw[acK ho];exact hcl
 ·simp at hf
  rcases mem row h with h|rfl
  ·exact k.flat hf.1 row h x hx'
  ·rcases atS hx' with h'|h'
   ·exact k.flat hf.1 cs (aE9 hr) x h'
   ·exact hf.2 x h'
 ·rw[aLI]at h
  rw[abY _ _ _ _ (by omega)]
  by_cases hi:r=i
  ·subst hi
   rw[if_pos rfl]at h
   split at h
   ·simp at h;subst h
    rw[acA ho]at hj
    by_cases h1:o≤j∧j<o+xs.length
    ·rw[if_pos h1]at hj
     rw[if_pos (by omega)]
     have hlt':j-o<vs.length:=by omega
     refine⟨vs[j-o],?_,hx.2 _ x _ hj (acZ hlt')⟩
     rw[show co+r*st+j-(co+r*st+o)=j-o by omega]
     exact acZ hlt'
    ·rw[if_neg h1]at hj
     rw[if_neg (by omega)]
     exact k.cell r cs j x hr hj
   ·exact absurd hlt ‹_›
  ·rw[if_neg hi]at h
   have hjs:j<st:=by rw[←k.wide row (aE9 h)];exact(aAM.1 hj).1
   have:=aIM (i:=i) (r:=r) (st:=st) (j:=j) (fun e=>hi e.symm) hjs
   rw[acR]at this
   rw[if_neg (by omega)]
   exact k.cell i row j x h hj
 ·rcases mem row h with h|rfl
  ·exact k.isCell row h x hx'
  ·rcases atS hx' with h'|h'
   ·exact k.isCell cs (aE9 hr) x h'
   ·exact aAP.1 hc x h'
theorem LR.allCell{xs:List AV}{vs:List Value}(h:LR w S ρ xs vs)(hc:xs.all AV.isCell=true):∀v∈vs,Value.isCell v=true:=fun v hv=>by
 obtain⟨i,hi,rfl⟩:=List.mem_iff_getElem.1 hv
 have hi':i<xs.length:=by rw[h.1];exact hi
 exact(h.2 i xs[i] _ (acZ hi') (acZ hi)).cell (aAP.1 hc _ (aON hi'))
theorem aMO(H:HR w S ρ g){t:TypeId}{p v:AV}{cp cv:Value}{d:Kx}(h:pZ P g t p v=some d)(hp:VR w S ρ p cp)(hv:VR w S ρ v cv):
 ∃w',(Instr.storeAt t cp cv).run P w=.ok () w'∧HR w' S ρ (Bt g d.es)∧Ix w w' S S ρ ρ∧d.v=.tup []∧jI (Kz d.es) w w' ρ ρ∧lQ d.es ρ ρ:=by
 unfold pZ at h
 obtain⟨n,hn,h⟩:=acL.1 h
 cases p with
 |ptr b r o=>
  simp only at h
  split at h
  ·rename_i st fl wr rows hg
   obtain⟨cs,hr,h⟩:=acL.1 h
   split at h
   ·rename_i hc
    obtain⟨hc1,hc2,hc3⟩:=hc
    simp at h;subst h
    cases hp with
    |ptrD hρ=>rw[H.dead b hρ]at hg;simp at hg
    | @ptr _ _ _ _ cb co st' sz hρ=>
      obtain⟨c,e,fz,fl',rows',h1,h2,h3,h4⟩:=H.at_ b cb co st' sz hρ
      rcases h4 with⟨⟨wr',h4⟩,hS,hfz⟩|⟨h4,_⟩
      ·rw[hg]at h4
       simp at h4
       obtain⟨rfl,rfl,rfl,rfl⟩:=h4
       have hcells:=hv.cells
       have hsz:cv.cells.size=n:=by have:=hcells.1;simp at this;omega
       have hcl:cs.length=st:=h3.wide cs (aE9 hr)
       have hlt:r<rows.length:=(aAM.1 hr).1
       have hin:co+r*st+st≤c.size:=by
        have h5:=h3.len
        have h6:(r+1)*st≤rows.length*st:=aCF _ hlt
        rw[acR]at h6;omega
       have hrun:=pB (P:=P) (g:=cb) (o:=co+r*st+o) cv.cells.toList 0 c w h1 (by simp;omega) (fun j h5 h6=>hfz j (by simp at h6;omega)) (hcells.allCell hc3)
       have hb:=h3.set (o:=o) hr (by omega) hcells hc3
       refine⟨setB w cb (.cells (Ym c (co+r*st+o+0) cv.cells.toList) e fz),?_,?_,Ix.setB hρ hS ⟨_,_,_,h1⟩ _,rfl,jI.setB H hρ ⟨_,List.mem_singleton.2 rfl,rfl⟩ _,lQ.cells hρ⟩
       ·simp[Instr.storeAt,Instr.sureAddr,storeVar,Ey hn,hsz,hrun]
       ·simp only[Bt,Dq,hg,Xg,hr]
        exact H.setLive hρ hS (by simp[aI,h2]) hfz ⟨_,_,_,h1⟩ hb
      ·rw[hg]at h4;simp at h4
   ·simp at h
  ·simp at h
 |_=>simp at h
theorem Pq{α:Type}{st:Nat}:∀{rows:List (List α)} (_:∀r∈rows,r.length=st) {i:Nat} {r:List α} {j:Nat} {x:α},rows[i]?=some r→r[j]?=some x→rows.flatten[i*st+j]?=some x
 | [],_,i,r,j,x,h,_=>by simp at h
 |row::rows,hw,i,r,j,x,h,hx=>by
  have hrow:=hw row (aHJ ..)
  rw[aSU,aOD]
  cases i with
  |zero=>
   simp at h;subst h
   have:j<row.length:=(aAM.1 hx).1
   rw[if_pos (by simpa using this)];simpa using hx
  |succ i=>
   simp at h
   rw[acR,if_neg (by omega)]
   rw[show i*st+1*st+j-row.length=i*st+j by omega]
   exact Pq (fun r hr=>hw r (aM9 _ hr)) h hx
theorem Gm{α:Type}{st:Nat}:∀{rows:List (List α)},(∀r∈rows,r.length=st)→rows.flatten.length=rows.length*st
 | [],_=>by simp
 |row::rows,h=>by
  rw[aSU,List.length_append,Gm (fun r hr=>h r (aM9 _ hr)),h row (aHJ ..),aR6,acR];omega
theorem Ic.ofRows{rows:List (List AV)}{st:Nat}{fl:Bool}{c:Array Value}(hw:∀r∈rows,r.length=st)(hf:fl=true→∀r∈rows,∀x∈r,x.flat=true)
 (hc:∀r∈rows,∀x∈r,x.isCell=true) {more:List Value} {vs:List Value} (hv:LR w S ρ rows.flatten vs) (hcs:c.toList=vs++more):Ic w S ρ c 0 st fl rows:=by
 have hl:vs.length=rows.length*st:=by rw[←hv.1,Gm hw]
 refine⟨?_,hw,hf,fun i r j x hr hx=>?_,hc⟩
 ·have:c.size=c.toList.length:=by simp
  rw[this,hcs];simp;omega
 ·have h1:=Pq hw hr hx
  have hlt:i*st+j<vs.length:=by rw[←hv.1];exact(aAM.1 h1).1
  refine⟨vs[i*st+j],?_,hv.2 _ x _ h1 (acZ hlt)⟩
  rw[←aER,hcs,Nat.zero_add,List.getElem?_append_left hlt]
  exact acZ hlt
theorem aI8(H:HR w S ρ g){base:Nat}(hb:ρ base=.fresh){v:AV}{cv:Value}{d:Kx}(h:aCJ base v=some d)(hv:VR w S ρ v cv)(t:TypeId):
 ∃w' ρ',(newVar t cv).run P w=.ok ⟨w.heap.size,0,none⟩ w'∧VR w' S ρ' d.v (.pointer (some ⟨w.heap.size,0,none⟩))∧HR w' S ρ' (Bt g d.es)∧Ix w w' S S ρ ρ'∧jI (Kz d.es) w w' ρ ρ'∧lQ d.es ρ ρ':=by
 unfold aCJ at h
 split at h
 ·rename_i hc
  simp at h;subst h
  have hcells:=hv.cells
  have hblk:Ic w S ρ cv.cells 0 (Bd v).length ((Bd v).all AV.flat) [Bd v]:=by
   refine Ic.ofRows (more:=[]) (by simp) (fun hf r hr x hx=>?_) (fun r hr x hx=>?_) (vs:=cv.cells.toList) (by simpa using hcells) (by simp)
   ·simp at hr;subst hr;exact aAP.1 hf x hx
   ·simp at hr;subst hr;exact aAP.1 hc x hx
  refine⟨w.alloc (.cells cv.cells t),ρ.put base (.pl w.heap.size 0 (Bd v).length cv.cells.size),?_,?_,?_,Ix.alloc hb H.old _ _ _ _,jI.alloc H hb _ _ _,lQ.alloc⟩
  ·simp[newVar,newRow]
  ·have:=VR.ptr (w:=w.alloc (.cells cv.cells t)) (S:=S) (r:=0) (o:=0) (Bq.put_same ρ base (.pl w.heap.size 0 (Bd v).length cv.cells.size))
   simpa using this
  ·simp only[Bt,Dq]
   exact H.alloc hb hblk t
 ·simp at h
end
section
variable {P:Program} {w:World} {S:Nat→Prop} {ρ:Bq} {g:HF}
theorem aRJ{z:Array Value}{m k:Nat}(hk:k<m)(hz:0<z.size):((aJZ m).map (z[· % z.size]!))[k]?=some (z[k % z.size]'(aLF _ hz)):=by
 have:k % z.size<z.size:=aLF _ hz
 simp[hk,this]
theorem Ic.rep{z:AV}{cz:Value}(hz:VR w S ρ z cz){n:Nat}(hn:(Bd z).length=n)(h0:n≠0)(hc:(Bd z).all AV.isCell=true)(l c:Nat)(hl:l≤c):
 Ic w S ρ ((aJZ (c*n)).map (cz.cells[· % cz.cells.size]!)) 0 n ((Bd z).all AV.flat) (aG6 l (Bd z)):=by
 have hcells:=hz.cells
 have hsz:cz.cells.size=n:=by have:=hcells.1;simp at this;omega
 refine⟨?_,fun r hr=>?_,fun hf r hr x hx=>?_,fun i r j x hr hx=>?_,fun r hr x hx=>?_⟩
 ·simp;exact aCF _ hl
 ·rw[(aLG.1 hr).2];exact hn
 ·rw[(aLG.1 hr).2]at hx;exact aAP.1 hf x hx
 ·have hil:i<l:=by have:=(aAM.1 hr).1;simpa using this
  have hre:r=Bd z:=by rw[List.getElem?_replicate,if_pos hil]at hr;simpa using hr.symm
  subst hre
  have hj:j<n:=by rw[←hn];exact(aAM.1 hx).1
  have hk:0+i*n+j<c*n:=by
   have:(i+1)*n≤c*n:=aCF _ (by omega)
   rw[acR]at this;omega
  have hmod:(0+i*n+j) % cz.cells.size=j:=by
   rw[hsz,Nat.zero_add,aOW,Nat.mul_add_mod];exact Nat.mod_eq_of_lt hj
  refine⟨cz.cells[j]'(by omega),?_,hcells.2 j x _ hx (by simp[show j<cz.cells.size by omega])⟩
  rw[aRJ hk (by omega)]
  simp only[hmod]
 ·rw[(aLG.1 hr).2]at hx;exact aAP.1 hc x hx
theorem aEX{n:Int}(h0:0≤n)(h1:n≤2 ^ 40):IntKind.i64.wrap n=n:=IntWalk.i64_in n (by constructor<;>omega)
theorem aDU(H:HR w S ρ g){base:Nat}(hb:ρ base=.fresh){t:TypeId}{len cap:AV}{cl cc:Value}{d:Kx}(h:Og P base t len cap=some d)(hl:VR w S ρ len cl)(hc:VR w S ρ cap cc):
 ∃cv w' ρ',(Instr.makeSlice t cl cc).run P w=.ok cv w'∧VR w' S ρ' d.v cv∧HR w' S ρ' (Bt g d.es)∧Ix w w' S S ρ ρ'∧jI (Kz d.es) w w' ρ ρ'∧lQ d.es ρ ρ':=by
 unfold Og at h
 simp only[acL]at h
 obtain⟨e,he,n,hn,by_,hby,z,hz,h⟩:=h
 split at h
 ·rename_i l c
  split at h
  ·rename_i hcnd
   obtain⟨h0,hlc,hc40,hby7,hn0,hzn,hzc⟩:=hcnd
   simp at h;subst h
   cases hl;cases hc
   have hu:P.underlying t=some (.slice e):=by
    unfold al2 at he
    split at he
    ·rename_i hu;simp at he;subst he;exact hu
    ·simp at he
   obtain⟨i,cz,hi,hiz,hov,hrun⟩:=mR hz
   obtain⟨i',hi',hb'⟩:=aM4 hby
   rw[hi]at hi';cases hi'
   have hzv:VR w S ρ z cz:=Rr hov
   have hblk:=Ic.rep hzv hzn hn0 hzc l.toNat c.toNat (by omega)
   have hw1:IntKind.i64.wrap l=l:=aEX h0 (by omega)
   have hw2:IntKind.i64.wrap c=c:=aEX (by omega) hc40
   have hcn:c.toNat*n≠0∨c.toNat*n=0:=by omega
   have hbig:¬((281474976710656:Int)<(i.bytes:Int)*c):=by
    have h1:(i.bytes:Int)≤128:=by omega
    have h2:(i.bytes:Int)*c≤128*2 ^ 40:=Int.le_trans (Int.mul_le_mul_of_nonneg_right h1 (by omega)) (Int.mul_le_mul_of_nonneg_left hc40 (by omega))
    omega
   generalize hA:(aJZ (c.toNat*n)).map (cz.cells[· % cz.cells.size]!)=A at hblk
   have hAs:A.size=c.toNat*n:=by rw[←hA];simp
   refine⟨.slice (some ⟨w.heap.size,0,none⟩) l.toNat c.toNat,w.alloc (.cells A e),ρ.put base (.pl w.heap.size 0 n A.size),?_,?_,?_,Ix.alloc hb H.old _ _ _ _,jI.alloc H hb _ _ _,lQ.alloc⟩
   ·have hnl:¬l<0:=by omega
    have hgt:¬l>c:=by omega
    have hcl:¬c<0:=by omega
    by_cases hcz:c.toNat*n=0
    ·have hA0:A=#[]:=by apply aSY;omega
     simp[Instr.makeSlice,run_underlying hu,asInt,asIntOf,typeInfo,hi,hw1,hw2,hnl,hgt,hcl,hbig,Ey hn,hcz,newRow,hA0,show aJZ 0=#[]from rfl]
    ·simp[Instr.makeSlice,run_underlying hu,asInt,asIntOf,typeInfo,hi,hw1,hw2,hnl,hgt,hcl,hbig,Ey hn,hcz,newRow,hrun,hA]
   ·refine .slr (Bq.put_same ..) (by omega) (.inr ⟨by simp,?_⟩)
    simp[hAs]
   ·simp only[Bt,Dq]
    exact H.alloc hb hblk e
  ·simp at h
 ·simp at h
theorem aOL{st:Nat}{rows:List (List AV)}{i:Nat}{xs:List AV}(hw:∀r∈rows,r.length=st)(hx:xs.length=st)(hi:i<rows.length):Gf rows.flatten (i*st) xs=(rows.set i xs).flatten:=by
 have hw':∀r∈rows.set i xs,r.length=st:=fun r hr=>by
  rcases aPH hr with hr|rfl
  ·exact hw r hr
  ·exact hx
 have hlen:=Gm hw
 have hlen':=Gm hw'
 have hin:i*st+st≤rows.length*st:=by
  have:(i+1)*st≤rows.length*st:=aCF _ hi
  rw[acR]at this;omega
 apply List.ext_getElem?
 intro k
 rw[acA (by omega)]
 by_cases hk:k<rows.length*st
 ·have hst:0<st:=by rcases aOX st with h|h;(subst h;simp at hk);exact h
  have hkn:k % st<st:=aLF _ hst
  have hdiv:k / st<rows.length:=by rw[aQ7 hst];exact hk
  have hke:k / st*st+k % st=k:=by rw[aOW];exact aRF k st
  have e1:=Pq hw (i:=k / st) (r:=rows[k / st]) (j:=k % st) (x:=rows[k / st][k % st]'(by rw[hw _ (aON hdiv)];exact hkn)) (acZ hdiv) (acZ _)
  rw[hke]at e1
  by_cases hd:k / st=i
  ·subst hd
   rw[if_pos (by omega)]
   have hlt:k % st<xs.length:=by omega
   have e2:=Pq hw' (i:=k / st) (r:=xs) (j:=k % st) (x:=xs[k % st]) (by rw[aLI];simp[hdiv]) (acZ hlt)
   rw[hke]at e2
   rw[e2,show k-k / st*st=k % st by omega]
   exact acZ hlt
  ·have hap:=aIM (i:=k / st) (r:=i) (st:=st) (j:=k % st) hd hkn
   rw[acR]at hap
   rw[if_neg (by omega),e1]
   have e2:=Pq hw' (i:=k / st) (r:=rows[k / st]) (j:=k % st) (x:=rows[k / st][k % st]'(by rw[hw _ (aON hdiv)];exact hkn)) (by rw[aLI,if_neg (Ne.symm hd)];exact acZ hdiv) (acZ _)
   rw[hke]at e2
   exact e2.symm
 ·rw[if_neg (by omega),aKM (by omega),aKM (by rw[hlen'];simp;omega)]
theorem al6{n:Nat}:∀{parts:List (Nat × AV)} {rows r:List (List AV)},bB n rows parts=some r→(∀r∈rows,r.length=n)→
 Zj (fun i=>some (i*n,n)) rows.flatten parts=some r.flatten∧(∀x∈r,x.length=n)∧r.length=rows.length
 | [],rows,r,h,hw=>by simp[bB]at h;subst h;exact⟨by simp[Zj],hw,rfl⟩
 |(i,v)::parts,rows,r,h,hw=>by
  unfold bB at h
  split at h
  ·rename_i hc
   have hw':∀r∈rows.set i (Bd v),r.length=n:=fun r hr=>by
    rcases aPH hr with hr|rfl
    ·exact hw r hr
    ·exact hc.1
   obtain⟨h1,h2,h3⟩:=al6 h hw'
   refine⟨?_,h2,by simpa using h3⟩
   unfold Zj
   have hin:i*n+n≤rows.flatten.length:=by
    rw[Gm hw]
    have:(i+1)*n≤rows.length*n:=aCF _ hc.2
    rw[acR]at this;omega
   simp only[hc.1,hin,and_self,if_true]
   rw[aOL hw hc.1 hc.2];exact h1
  ·simp at h
theorem aBQ(H:HR w S ρ g){base:Nat}(hb:ρ base=.fresh){t:TypeId}{len:Nat}{parts:List (Nat × AV)}{cparts:Array (Nat × Value)}{d:Kx}(h:Eu P base t len parts=some d)
 (hlen:parts.length=cparts.toList.length) (hp:∀(i:Nat) p q,parts[i]?=some p→cparts.toList[i]?=some q→p.1=q.1∧VR w S ρ p.2 q.2):
 ∃cv w' ρ',(Instr.buildSlice t len cparts).run P w=.ok cv w'∧VR w' S ρ' d.v cv∧HR w' S ρ' (Bt g d.es)∧Ix w w' S S ρ ρ'∧jI (Kz d.es) w w' ρ ρ'∧lQ d.es ρ ρ':=by
 unfold Eu at h
 simp only[acL]at h
 obtain⟨e,he,n,hn,z,hz,h⟩:=h
 split at h
 ·simp at h
 ·rename_i hcnd
  obtain⟨hn0,hzn,hbig⟩:n≠0∧(Bd z).length=n∧¬2 ^ 24<len*n:=by
   refine⟨fun h=>hcnd (.inl h),?_,fun h=>hcnd (.inr (.inr h))⟩
   by_cases hh:(Bd z).length=n
   ·exact hh
   ·exact(hcnd (.inr (.inl hh))).elim
  obtain⟨rows,hrows,h⟩:=acL.1 h
  split at h
  ·rename_i hcell
   simp at h;subst h
   have hu:P.underlying t=some (.slice e):=by
    unfold al2 at he
    split at he
    ·rename_i hu;simp at he;subst he;exact hu
    ·simp at he
   obtain⟨i,cz,hi,hiz,hov,hrun⟩:=mR hz
   have hzv:VR w S ρ z cz:=Rr hov
   have hcells:=hzv.cells
   have hzs:cz.cells.size=n:=by have:=hcells.1;simp at this;omega
   obtain⟨h1,h2,h3⟩:=al6 hrows (fun r hr=>by rw[(aLG.1 hr).2];exact hzn)
   generalize hA:(aJZ (len*n)).map (cz.cells[· % cz.cells.size]!)=A
   have hAs:A.size=len*n:=by rw[←hA];simp
   have hlr:LR w S ρ (aG6 len (Bd z)).flatten A.toList:=by
    have hw0:∀r∈aG6 len (Bd z),r.length=n:=fun r hr=>by rw[(aLG.1 hr).2];exact hzn
    refine⟨by rw[Gm hw0];simp[hAs],fun k x v hx hv=>?_⟩
    have hk:k<len*n:=by have:=(aAM.1 hx).1;rw[Gm hw0]at this;simpa using this
    have hkn:k % n<n:=aLF _ (by omega)
    have hdiv:k / n<len:=by rw[aQ7 (by omega)];exact hk
    have h5:=Pq hw0 (i:=k / n) (r:=Bd z) (j:=k % n) (x:=(Bd z)[k % n]'(by omega)) (by simp[hdiv]) (acZ (by omega))
    rw[show k / n*n+k % n=k by rw[aOW];exact aRF k n]at h5
    rw[h5]at hx;cases hx
    rw[aER,←hA,aRJ hk (by omega)]at hv
    cases hv
    refine hcells.2 (k % n) _ _ (acZ (by omega)) ?_
    simp only[hzs]
    simp[show k % n<cz.cells.size by omega]
   obtain⟨cr,h4,h5⟩:=acB h1 hlr hlen hp
   have hblk:Ic w S ρ cr 0 n ((Bd z).all AV.flat&&rows.all (·.all AV.flat)) rows:=by
    refine Ic.ofRows (more:=[]) h2 (fun hf0 r hr x hx=>?_) (fun r hr x hx=>?_) h5 (by simp)
    ·exact aAP.1 (aAP.1 (Bool.and_eq_true_iff.1 hf0).2 r hr) x hx
    ·exact aAP.1 (aAP.1 hcell r hr) x hx
   have hcrs:cr.size=len*n:=by
    have h6:=h5.1
    rw[Gm h2,h3]at h6;simpa using h6.symm
   refine⟨.slice (some ⟨w.heap.size,0,none⟩) len len,w.alloc (.cells cr e),ρ.put base (.pl w.heap.size 0 n cr.size),?_,?_,?_,Ix.alloc hb H.old _ _ _ _,jI.alloc H hb _ _ _,lQ.alloc⟩
   ·by_cases hz0:len*n=0
    ·have hA0:A=#[]:=by apply aSY;omega
     rw[hA0]at h4
     simp[Instr.buildSlice,run_underlying hu,Ey hn,hz0,newRow,h4,show aJZ 0=#[]from rfl]
    ·simp[Instr.buildSlice,run_underlying hu,Ey hn,hz0,newRow,hrun,hA,h4,hbig]
   ·refine .slr (Bq.put_same ..) (aC7 _) (.inr ⟨by simp,?_⟩)
    simp[hcrs]
   ·simp only[Bt,Dq]
    exact H.alloc hb hblk e
  ·simp at h
end
section
variable {P:Program} {w:World} {S:Nat→Prop} {ρ:Bq} {g:HF}
theorem aLV{b off st:Nat}{rows:List (List AV)}{f:Nat→Nat→Value}(hw:∀r∈rows,r.length=st)
 (hc:∀(i:Nat) (r:List AV) (j:Nat) (x:AV),rows[i]?=some r→r[j]?=some x→w.cell? ⟨b,off+i*st+j,none⟩=some (f i j))
 (hv:∀(i:Nat) (r:List AV) (j:Nat) (x:AV),rows[i]?=some r→r[j]?=some x→VR w S ρ x (f i j)):
 ∃vals,LR w S ρ rows.flatten vals∧ayL w b off vals:=by
 refine⟨(aC6 (rows.length*st)).map fun k=>f (k / st) (k % st),⟨by rw[Gm hw];simp,fun k x v hx hv'=>?_⟩,fun k v hv'=>?_⟩
 all_goals
  have hk:k<rows.length*st:=by
   first
    |(have:=(aAM.1 hx).1;rw[Gm hw]at this;exact this)
    |(have:=(aAM.1 hv').1;simpa using this)
  have hst:0<st:=by rcases aOX st with h|h;(subst h;simp at hk);exact h
  have hkn:k % st<st:=aLF _ hst
  have hdiv:k / st<rows.length:=by rw[aQ7 hst];exact hk
  have hr:rows[k / st]?=some rows[k / st]:=acZ hdiv
  have hl:rows[k / st].length=st:=hw _ (aON hdiv)
  have hx':rows[k / st][k % st]?=some (rows[k / st][k % st]'(by omega)):=acZ (by omega)
  have hke:k / st*st+k % st=k:=by rw[aOW];exact aRF k st
  simp[aPA hk]at hv'
  subst hv'
 ·have h5:=Pq hw hr hx'
  rw[hke]at h5
  rw[h5]at hx;cases hx
  exact hv _ _ _ _ hr hx'
 ·have h6:=hc _ _ _ _ hr hx'
  rw[show off+k / st*st+k % st=off+k by omega]at h6
  exact h6
theorem ab1(H:HR w S ρ g){b r len st:Nat}{fl:Bool}{rows:List (List AV)}(h:Ju g b r len=some (st,fl,rows)){st':Nat}{cx:Value}(hx:VR w S ρ (.slr st' b r len) cx):
 ∃(cb co sz cap:Nat) (a:Addr) (vals:List Value),ρ b=.pl cb co st sz∧cx=.slice (some a) len cap∧st'=st∧len≤cap∧(cap=0∨(a=⟨cb,co+r*st,none⟩∧co+(r+cap)*st≤sz))∧
  LR w S ρ rows.flatten vals∧ayL w cb (co+r*st) vals∧rows.length=len∧(∀r∈rows,r.length=st)∧(fl=true→∀r∈rows,∀x∈r,x.flat=true)∧(∀r∈rows,∀x∈r,x.isCell=true):=by
 cases hx with
 | @slr _ _ _ _ cb co _ sz cap a hρ hle ha=>
   obtain⟨c,e,fz,fl',rows',h1,h2,h3,h4⟩:=H.at_ b cb co st' sz hρ
   have hg:r+len≤rows'.length∧st'=st∧fl'=fl∧(rows'.drop r).take len=rows:=by
    rcases h4 with⟨⟨wr,h4⟩,_⟩|⟨h4,_⟩<;>simpa [Ju,h4]using h
   obtain⟨hrl,rfl,rfl,rfl⟩:=hg
   have hmem:∀row,row∈(rows'.drop r).take len→row∈rows':=fun row hr=>aID (aHM hr)
   have hsub:∀(i:Nat) row,((rows'.drop r).take len)[i]?=some row→rows'[r+i]?=some row:=fun i row hr=>by
    rw[aEO]at hr
    split at hr
    ·rwa[aAN]at hr
    ·simp at hr
   obtain⟨vals,hv1,hv2⟩:=aLV (w:=w) (S:=S) (ρ:=ρ) (b:=cb) (off:=co+r*st') (st:=st') (rows:=(rows'.drop r).take len) (f:=fun i j=>(c[co+(r+i)*st'+j]?).getD undef)
    (fun r hr=>h3.wide r (hmem r hr))
    (fun i row j x hr hx=>by
      obtain⟨v,h5,h6⟩:=h3.cell (r+i) row j x (hsub i row hr) hx
      rw[azG h1,show co+r*st'+i*st'+j=co+(r+i)*st'+j by rw[acR];omega,h5];rfl)
    (fun i row j x hr hx=>by
      obtain⟨v,h5,h6⟩:=h3.cell (r+i) row j x (hsub i row hr) hx
      rw[h5];exact h6)
   exact⟨cb,co,sz,cap,a,vals,hρ,rfl,rfl,hle,ha,hv1,hv2,by simp;omega,fun row hr=>h3.wide row (hmem row hr),fun hf row hr=>h3.flat hf row (hmem row hr),fun row hr=>h3.isCell row (hmem row hr)⟩
 |slrD hρ hle=>simp[Ju,H.dead b hρ]at h
theorem ah3(H:HR w S ρ g){e:TypeId}{n:Nat}(hn:mV P e=some n){x:AV}{cx:Value}{fl:Bool}{new:List (List AV)}{fs:List Ew}(h:Hi P g e x=some (fl,new,fs))(hx:VR w S ρ x cx):
 ∃vals:List Value,(∀w',(Builtin.lenOf cx).run P w'=.ok new.length w')∧(∀w',w'.heap=w.heap→(Builtin.firstCells n new.length cx).run P w'=.ok vals.toArray w')∧LR w S ρ new.flatten vals∧
  (∀r∈new,r.length=n)∧(fl=true→∀r∈new,∀x∈r,x.flat=true)∧(∀r∈new,∀x∈r,x.isCell=true):=by
 have cellw:∀{w':World},w'.heap=w.heap→∀a,w'.cell? a=w.cell? a:=fun h a=>by simp only[World.cell?,h]
 unfold Hi at h
 split at h
 ·simp at h;obtain⟨rfl,rfl,rfl⟩:=h
  cases hx
  exact⟨[],fun w'=>by simp[Builtin.lenOf],fun w' _=>by simp[Builtin.firstCells],.nil,by simp,by simp,by simp⟩
 ·rename_i st fl' rows
  split at h
  ·rename_i hs
   rw[hn]at hs;cases hs
   simp at h;obtain⟨rfl,rfl,rfl⟩:=h
   cases hx with
   | @imm _ _ _ _ a cap f hs hle hw hfl hcl hc hv=>
     rcases hs with rfl|⟨hs,hsp⟩
     ·exact⟨[],fun w'=>by simp[Builtin.lenOf],fun w' _=>by simp[Builtin.firstCells,loadCells,loadCellsFrom],.nil,by simp,by simp,by simp⟩
     ·obtain⟨ab,ao,as⟩:=a
      simp at hsp;subst hsp
      obtain⟨vals,h1,h2⟩:=aLV hw hc (hv ρ)
      have hvl:vals.length=rows.length*n:=by rw[←h1.1,Gm hw]
      refine⟨vals,fun w'=>by simp[Builtin.lenOf],fun w' hw'=>?_,h1,hw,hfl,hcl⟩
      have:=Yh (P:=P) (w:=w') (b:=ab) (off:=ao) (vs:=vals) (fun j v hv=>by rw[cellw hw'];exact h2 j v hv)
      rw[hvl]at this
      simp[Builtin.firstCells,this]
  ·simp at h
 ·rename_i st b r len
  simp only[acL]at h
  obtain⟨⟨st',fl',rows⟩,hr,h⟩:=h
  simp only at h
  split at h
  ·rename_i hs
   rw[hn]at hs;cases hs
   simp at h;obtain⟨rfl,rfl,rfl⟩:=h
   obtain⟨cb,co,sz,cap,a,vals,h1,rfl,rfl,h4,h5,h6,h7,h8,h9,h10,h11⟩:=ab1 H hr hx
   have hvl:vals.length=rows.length*st:=by rw[←h6.1,Gm h9]
   refine⟨vals,fun w'=>by simp[Builtin.lenOf,h8],fun w' hw'=>?_,h6,h9,h10,h11⟩
   rcases h5 with h5|⟨rfl,_⟩
   ·have:rows.length=0:=by omega
    have hv0:vals=[]:=aLE (by rw[hvl,this];simp)
    simp[Builtin.firstCells,this,hv0,loadCells,loadCellsFrom]
   ·have:=Yh (P:=P) (w:=w') (b:=cb) (off:=co+r*st) (vs:=vals) (fun j v hv=>by rw[cellw hw'];exact h7 j v hv)
    rw[hvl]at this
    simp[Builtin.firstCells,this]
  ·simp at h
 ·rename_i s
  split at h
  ·rename_i hu
   simp at h;obtain⟨rfl,rfl,rfl⟩:=h
   cases hx with
   |str s=>
    rw[hn]at hu;cases hu
    refine⟨s.data.toList.map fun b=>.int .u8 b.toNat,fun w'=>by simp[Builtin.lenOf],fun w' _=>?_,?_,by simp,by simp[AV.flat],by simp[AV.isCell]⟩
    ·have hex:s.extract 0 s.size=s:=by simp
     have:s.data.toList.length=s.size:=by simp
     simp[Builtin.firstCells,hex]
     apply Array.ext'
     simp
    ·have hfl:(s.data.toList.map fun b=>[AV.int .u8 b.toNat]).flatten=s.data.toList.map fun b=>AV.int .u8 b.toNat:=by
      generalize s.data.toList=l
      induction l with
      |nil=>rfl
      |cons a l ih=>simp[ih]
     rw[hfl]
     refine⟨by simp,fun i x v hx hv=>?_⟩
     simp only[List.getElem?_map,aqD]at hx hv
     obtain⟨b,hb,rfl⟩:=hx
     obtain⟨b',hb',rfl⟩:=hv
     rw[hb]at hb';cases hb'
     exact .int _ _
  ·simp at h
 ·simp at h
def a4H(P:Program)(t:TypeId):Prop:=(∃e,P.underlying t=some (.slice e))∨P.underlying t=some .string
theorem afY{ts:Array TypeId}{t t1 ty e:TypeId}(h0:ts[0]?=some t)(h1:ts[1]?=some t1)(hu:P.underlying t=some (.slice e))(hz:a4H P t1){n size:Nat}(hs:mV P e=some size)
 {base:Option Addr} {sLen sCap:Nat} {cx:Value} (hlen:∀w',(Builtin.lenOf cx).run P w'=.ok n w') (hfit:sLen+n≤sCap) {news:Array Value} (hnew:(Builtin.firstCells size n cx).run P w=.ok news w):
 (Builtin.append_ ts ty #[.slice base sLen sCap,cx]).run P w=
   match base with
   |some a=>((storeCells (a.add (sLen*size)) news.toList).run P w).andThen fun _ w'=>.ok (.slice base (sLen+n) sCap) w'
   |none=>.ok (.slice base (sLen+n) sCap) w:=by
 rcases hz with⟨e',hd⟩|hd<;>cases base<;>simp[Builtin.append_,h0,h1,run_underlying hu,run_underlying hd,Ey hs,hlen,hfit,hnew]
def aFG(w:World)(need old:Nat)(e:TypeId):Nat:=need+w.tape w.drawn (.appendCap need old e) % (2 ^ 63-need)
theorem adJ{ts:Array TypeId}{t t1 ty e:TypeId}(h0:ts[0]?=some t)(h1:ts[1]?=some t1)(hu:P.underlying t=some (.slice e))(hz:a4H P t1){n:Nat}{i:TypeInfo}(hi:P.info? e=some i){z:Value}(hzv:i.zero=some z)
 {base:Option Addr} {sLen sCap:Nat} {cx:Value} (hlen:∀w',(Builtin.lenOf cx).run P w'=.ok n w') (hfit:¬sLen+n≤sCap) (h63:sLen+n≤2 ^ 39) (hby:i.bytes≤2 ^ 8) {olds news:Array Value}
 (hold:(Builtin.firstCells i.size sLen (.slice base sLen sCap)).run P w.drew=.ok olds w.drew) (hnew:(Builtin.firstCells i.size n cx).run P w.drew=.ok news w.drew):
 (Builtin.append_ ts ty #[.slice base sLen sCap,cx]).run P w=
   .ok (.slice (some ⟨w.heap.size,0,none⟩) (sLen+n) (aFG w (sLen+n) sCap e)) (w.drew.alloc (.cells (olds++news++Builtin.zeroCells z.cells (aFG w (sLen+n) sCap e-(sLen+n))) e)):=by
 have hb:Builtin.nextslicecap (sLen+n) sCap*i.bytes≤281474976710656:=by
  refine growslice_fits (by omega) ?_
  calc (sLen+n)*i.bytes≤2 ^ 39*2 ^ 8:=Nat.mul_le_mul h63 hby
   _≤_:=by decide
 have hb':¬(281474976710656<Builtin.nextslicecap (sLen+n) sCap*i.bytes):=by omega
 have h63':¬((9223372036854775807:Int)<(sLen:Int)+(n:Int)):=by omega
 rcases hz with⟨e',hd⟩|hd<;>simp[Builtin.append_,h0,h1,run_underlying hu,run_underlying hd,sizeOf,typeInfo,zeroValue,hi,hzv,hlen,hfit,hb',h63',Question.forced,hold,hnew,newRow,aFG,Question.cut]
end
section
variable {P:Program} {w:World} {S:Nat→Prop} {ρ:Bq} {g:HF}
theorem Ix.rebase{b cb co st sz:Nat}(hb:ρ b=.pl cb co st sz)(hS:¬S cb)(hcl:∃c e f,w.heap[cb]?=some (.cells c e f)){base:Nat}(hf:ρ base=.fresh)(o:Obj)(co' st' sz':Nat):
 Ix w (Ev.setB w cb o) S S ρ ((ρ.put b .dead).put base (.pl cb co' st' sz')):=by
 have hne:base≠b:=fun e=>by rw[e,hb]at hf;cases hf
 have h:=Ix.setB (w:=w) hb hS hcl o
 refine⟨h.size,h.os,h.tape,h.output,h.keep,h.sub,?_,h.other,fun id cb' co1 st1 sz1 e=>?_,?_,h.objs,h.loops,fun id l e=>?_⟩
 ·exact Bq.le_trans (Bq.le_put_dead ρ b) (Bq.le_put_fresh (by rw[Bq.put_other _ _ hne];exact hf) _)
 ·by_cases h1:id=base
  ·subst h1;rw[Bq.put_same]at e;cases e;exact .inr ⟨b,_,_,_,hb⟩
  ·rw[Bq.put_other _ _ h1]at e
   by_cases h2:id=b
   ·subst h2;rw[Bq.put_same]at e;cases e
   ·rw[Bq.put_other _ _ h2]at e;exact .inr ⟨id,_,_,_,e⟩
 ·exact fun _ h=>.inl h
 ·by_cases h1:id=base
  ·subst h1;rw[Bq.put_same]at e;cases e
  ·rw[Bq.put_other _ _ h1]at e
   by_cases h2:id=b
   ·subst h2;rw[Bq.put_same]at e;cases e
   ·rw[Bq.put_other _ _ h2]at e;exact .inr ⟨id,e⟩
theorem HR.rebase(H:HR w S ρ g){b cb co st sz:Nat}(hb:ρ b=.pl cb co st sz)(hS:¬S cb){base:Nat}(hf:ρ base=.fresh){c:Array Value}{e:TypeId}{fz:Nat × Nat}(hsz:c.size=sz)
 (hfz:∀o,o<sz→¬(fz.1≤o∧o<fz.2)) {co':Nat} {fl wr:Bool} {rows:List (List AV)} (hg:∃c e f,w.heap[cb]?=some (.cells c e f)) (k:Ic w S ρ c co' st fl rows):
 HR (Ev.setB w cb (.cells c e fz)) S ((ρ.put b .dead).put base (.pl cb co' st sz)) (upd (upd g b .dead) base (.live st fl wr rows)):=by
 have hne:base≠b:=fun e=>by rw[e,hb]at hf;cases hf
 have hs:=Ix.rebase (w:=w) hb hS hg hf (.cells c e fz) co' st sz
 have look:∀id cb' co1 st1 sz1,((ρ.put b .dead).put base (.pl cb co' st sz)) id=.pl cb' co1 st1 sz1→(id=base∧cb'=cb∧co1=co'∧st1=st∧sz1=sz)∨(id≠base∧id≠b∧ρ id=.pl cb' co1 st1 sz1):=by
  intro id cb' co1 st1 sz1 h
  by_cases h1:id=base
  ·subst h1;rw[Bq.put_same]at h;cases h;exact .inl ⟨rfl,rfl,rfl,rfl,rfl⟩
  ·rw[Bq.put_other _ _ h1]at h
   by_cases h2:id=b
   ·subst h2;rw[Bq.put_same]at h;cases h
   ·rw[Bq.put_other _ _ h2]at h;exact .inr ⟨h1,h2,h⟩
 have lookL:∀id l,((ρ.put b .dead).put base (.pl cb co' st sz)) id=.lp l→id≠base∧id≠b∧ρ id=.lp l:=by
  intro id l h
  by_cases h1:id=base
  ·subst h1;rw[Bq.put_same]at h;cases h
  ·rw[Bq.put_other _ _ h1]at h
   by_cases h2:id=b
   ·subst h2;rw[Bq.put_same]at h;cases h
   ·rw[Bq.put_other _ _ h2]at h;exact⟨h1,h2,h⟩
 refine⟨fun id cb' co1 st1 sz1 h=>?_,fun id h=>?_,fun i1 i2 cb' a1 a2 a3 b1 b2 b3 h1 h2=>?_,fun b h=>by have:=H.old b h;simpa [Ev.setB]using this,fun id l h=>?_,fun i1 i2 l h1 h2=>H.linj i1 i2 l (lookL i1 l h1).2.2 (lookL i2 l h2).2.2,fun id l h=>H.lnS id l (lookL id l h).2.2⟩
 ·rcases look _ _ _ _ _ h with⟨rfl,rfl,rfl,rfl,rfl⟩|⟨h1,h2,h3⟩
  ·obtain⟨_,_,_,ho⟩:=hg
   exact⟨c,e,fz,fl,rows,nG ho,hsz,k.sim hs,.inl ⟨⟨wr,by simp[upd]⟩,hS,hfz⟩⟩
  ·obtain⟨c',e',fz',fl',rows',k1,k2,k3,k4⟩:=H.at_ _ _ _ _ _ h3
   have hcb:cb'≠cb:=fun e=>h2 (H.inj _ _ _ _ _ _ _ _ _ h3 (e▸hb))
   exact⟨c',e',fz',fl',rows',by rw[Cd hcb];exact k1,k2,k3.sim hs,by simpa [upd,h1,h2]using k4⟩
 ·by_cases h1:id=base
  ·subst h1;rw[Bq.put_same]at h;cases h
  ·rw[Bq.put_other _ _ h1]at h
   by_cases h2:id=b
   ·subst h2;simp[upd,h1]
   ·rw[Bq.put_other _ _ h2]at h;simpa [upd,h1,h2]using H.dead id h
 ·rcases look _ _ _ _ _ h1 with⟨rfl,rfl,_⟩|⟨k1,k2,k3⟩<;>rcases look _ _ _ _ _ h2 with⟨rfl,e2,_⟩|⟨m1,m2,m3⟩
  ·rfl
  ·exact(m2 (H.inj _ _ _ _ _ _ _ _ _ m3 hb)).elim
  ·subst e2;exact(k2 (H.inj _ _ _ _ _ _ _ _ _ k3 hb)).elim
  ·exact H.inj _ _ _ _ _ _ _ _ _ k3 m3
 ·obtain⟨h1,h2,h3⟩:=lookL id l h
  obtain⟨r,ps,asg,body,tmps,st',k1,k2,k3⟩:=H.lps id l h3
  refine⟨r,ps,asg,body,tmps,st',?_,by simpa [upd,h1,h2]using k2,k3.sim hs⟩
  obtain⟨_,_,_,ho⟩:=hg
  rw[Cd (fun q=>by subst q;rw[ho]at k1;cases k1;exact k3.cells)];exact k1
theorem Ix.kill(w:World)(S:Nat→Prop)(ρ:Bq)(b:Nat):Ix w w S S ρ (ρ.put b .dead):=
 ⟨aC7 _,rfl,rfl,rfl,fun _ _=>rfl,fun _ h=>h,Bq.le_put_dead ρ b,fun _ _ _ _=>rfl,fun id cb co st sz h=>by
   by_cases h2:id=b
   ·subst h2;rw[Bq.put_same]at h;cases h
   ·rw[Bq.put_other _ _ h2]at h;exact .inr ⟨id,_,_,_,h⟩,fun _ h=>.inl h,fun _ _ h _=>h,fun _ r h=>⟨r.state,r.pending,h⟩,fun id l h=>by
   by_cases h2:id=b
   ·subst h2;rw[Bq.put_same]at h;cases h
   ·rw[Bq.put_other _ _ h2]at h;exact .inr ⟨id,h⟩⟩
theorem HR.kill(H:HR w S ρ g)(b:Nat):HR w S (ρ.put b .dead) (upd g b .dead) where
 at_:=fun id cb co st sz h=>by
  by_cases h2:id=b
  ·subst h2;rw[Bq.put_same]at h;cases h
  ·rw[Bq.put_other _ _ h2]at h
   obtain⟨c',e',fz',fl',rows',k1,k2,k3,k4⟩:=H.at_ _ _ _ _ _ h
   exact⟨c',e',fz',fl',rows',k1,k2,k3.sim (Ix.kill w S ρ b),by simpa [upd,h2]using k4⟩
 dead:=fun id h=>by
  by_cases h2:id=b
  ·subst h2;simp[upd]
  ·rw[Bq.put_other _ _ h2]at h;simpa [upd,h2]using H.dead id h
 inj:=fun i1 i2 cb' a1 a2 a3 b1 b2 b3 h1 h2=>by
  by_cases e1:i1=b
  ·subst e1;rw[Bq.put_same]at h1;cases h1
  ·by_cases e2:i2=b
   ·subst e2;rw[Bq.put_same]at h2;cases h2
   ·rw[Bq.put_other _ _ e1]at h1;rw[Bq.put_other _ _ e2]at h2;exact H.inj _ _ _ _ _ _ _ _ _ h1 h2
 old:=H.old
 lps:=fun id l h=>by
  by_cases h2:id=b
  ·subst h2;rw[Bq.put_same]at h;cases h
  ·rw[Bq.put_other _ _ h2]at h
   obtain⟨r,ps,asg,body,tmps,st',k1,k2,k3⟩:=H.lps id l h
   exact⟨r,ps,asg,body,tmps,st',k1,by simpa [upd,h2]using k2,k3.sim (Ix.kill w S ρ b)⟩
 linj:=fun i1 i2 l h1 h2=>by
  have hn:∀x,ρ.put b .dead x=.lp l→ρ x=.lp l:=fun x hx=>by
   by_cases hi:x=b
   ·subst hi;rw[Bq.put_same]at hx;cases hx
   ·rw[Bq.put_other _ _ hi]at hx;exact hx
  exact H.linj i1 i2 l (hn i1 h1) (hn i2 h2)
 lnS:=fun id l h=>by
  by_cases h2:id=b
  ·subst h2;rw[Bq.put_same]at h;cases h
  ·rw[Bq.put_other _ _ h2]at h;exact H.lnS id l h
theorem ae5(z:Array Value)(n:Nat):(Builtin.zeroCells z n).size=n*z.size:=by simp[Builtin.zeroCells]
theorem Ic.drop{c:Array Value}{co st:Nat}{fl:Bool}{rows:List (List AV)}(k:Ic w S ρ c co st fl rows)(r:Nat)(hr:r≤rows.length):Ic w S ρ c (co+r*st) st fl (rows.drop r):=by
 refine⟨?_,fun x hx=>k.wide x (aID hx),fun hf x hx=>k.flat hf x (aID hx),fun i row j x h hj=>?_,fun x hx=>k.isCell x (aID hx)⟩
 ·have:=k.len
  have h2:rows.length*st=r*st+(rows.length-r)*st:=by rw[←acR];congr 1;omega
  simp;omega
 ·rw[aAN]at h
  obtain⟨v,h1,h2⟩:=k.cell _ row j x h hj
  refine⟨v,?_,h2⟩
  rw[←h1];congr 1;rw[acR];omega
theorem Ic.take{c:Array Value}{co st:Nat}{fl:Bool}{rows:List (List AV)}(k:Ic w S ρ c co st fl rows)(n:Nat):Ic w S ρ c co st fl (rows.take n):=by
 refine⟨?_,fun x hx=>k.wide x (aHM hx),fun hf x hx=>k.flat hf x (aHM hx),fun i row j x h hj=>?_,fun x hx=>k.isCell x (aHM hx)⟩
 ·have:=k.len
  have h2:(rows.take n).length*st≤rows.length*st:=aCF _ (by simp;omega)
  omega
 ·rw[aEO]at h
  split at h
  ·exact k.cell i row j x h hj
  ·cases h
theorem Ic.more{c:Array Value}{co st:Nat}{fl nfl:Bool}{rows new:List (List AV)}(k:Ic w S ρ c co st fl rows){vals:List Value}(s3:LR w S ρ new.flatten vals)(s4:∀r∈new,r.length=st)
 (s5:nfl=true→∀r∈new,∀x∈r,x.flat=true) (s6:∀r∈new,∀x∈r,x.isCell=true) (hsz:co+(rows.length+new.length)*st≤c.size):
 Ic w S ρ (Ym c (co+rows.length*st) vals) co st (fl&&nfl) (rows++new):=by
 have hvl:vals.length=new.length*st:=by rw[←s3.1,Gm s4]
 have hin:co+rows.length*st+vals.length≤c.size:=by rw[hvl];rw[acR]at hsz;omega
 refine⟨by simpa [aI]using hsz,fun r hr=>?_,fun hf r hr=>?_,fun i row j x h hj=>?_,fun r hr=>?_⟩
 ·rcases aIC.1 hr with hr|hr
  ·exact k.wide r hr
  ·exact s4 r hr
 ·simp at hf
  rcases aIC.1 hr with hr|hr
  ·exact k.flat hf.1 r hr
  ·exact s5 hf.2 r hr
 ·rw[abY _ _ _ _ hin]
  rw[aOD]at h
  by_cases hi:i<rows.length
  ·rw[if_pos hi]at h
   have hjs:j<st:=by rw[←k.wide row (aE9 h)];exact(aAM.1 hj).1
   have:(i+1)*st≤rows.length*st:=aCF _ hi
   rw[acR]at this
   rw[if_neg (by omega)]
   exact k.cell i row j x h hj
  ·rw[if_neg hi]at h
   have hjs:j<st:=by rw[←s4 row (aE9 h)];exact(aAM.1 hj).1
   have hil:i-rows.length<new.length:=(aAM.1 h).1
   have h5:=Pq s4 h hj
   have hlt:(i-rows.length)*st+j<vals.length:=by rw[←s3.1];exact(aAM.1 h5).1
   have hmul:i*st=rows.length*st+(i-rows.length)*st:=by rw[←acR];congr 1;omega
   rw[if_pos (by omega)]
   refine⟨vals[(i-rows.length)*st+j],?_,s3.2 _ x _ h5 (acZ hlt)⟩
   rw[show co+i*st+j-(co+rows.length*st)=(i-rows.length)*st+j by omega]
   exact acZ hlt
 ·rcases aIC.1 hr with hr|hr
  ·exact k.isCell r hr
  ·exact s6 r hr
theorem aJ9(H:HR w S ρ g){base:Nat}(hb:ρ base=.fresh){ts:Array TypeId}{t t1 ty:TypeId}(h0:ts[0]?=some t)(h1:ts[1]?=some t1)(hz:a4H P t1)
 {s x:AV} {cs cx:Value} {d:Kx} (h:Oc P g base t s x=some d) (hs:VR w S ρ s cs) (hx:VR w S ρ x cx):
 ∃cv w' ρ',(Builtin.append_ ts ty #[cs,cx]).run P w=.ok cv w'∧VR w' S ρ' d.v cv∧HR w' S ρ' (Bt g d.es)∧Ix w w' S S ρ ρ'∧jI (Kz d.es) w w' ρ ρ'∧lQ d.es ρ ρ':=by
 unfold Oc at h
 simp only[acL]at h
 obtain⟨e,he,n,hn,by_,hby,z,hzt,⟨nfl,new,fs⟩,hsrc,h⟩:=h
 simp only at h
 have hu:P.underlying t=some (.slice e):=by
  unfold al2 at he
  split at he
  ·rename_i hu;simp at he;subst he;exact hu
  ·simp at he
 obtain⟨i,cz,hi,hiz,hov,hrun⟩:=mR hzt
 obtain⟨i',hi',hb'⟩:=aM4 hby
 rw[hi]at hi';cases hi'
 obtain⟨i',hi',hin⟩:=aOG hn
 rw[hi]at hi';cases hi'
 obtain⟨vals,s1,s2,s3,s4,s5,s6⟩:=ah3 (P:=P) H hn hsrc hx
 have hvl:vals.length=new.length*n:=by rw[←s3.1,Gm s4]
 split at h
 ·simp at h
 ·rename_i hcnd
  obtain⟨hn0,hby7,hzn⟩:n≠0∧by_≤2 ^ 8∧(Bd z).length=n:=by
   refine⟨fun h=>hcnd (.inl h),?_,?_⟩
   ·by_cases hh:by_≤2 ^ 8
    ·exact hh
    ·exact(hcnd (.inr (.inl (by omega)))).elim
   ·by_cases hh:(Bd z).length=n
    ·exact hh
    ·exact(hcnd (.inr (.inr hh))).elim
  have hzs:cz.cells.size=n:=by
   have:=(Rr (w:=w) (S:=S) (ρ:=ρ) hov).cells.1;simp at this;omega
  split at h
  ·
   have hv0:vals=[]:=aLE (by rw[hvl];simp)
   subst hv0
   have fin:∀(ob:Option Addr) (l c:Nat),cs=.slice ob l c→l≤c→d=⟨s,[],fs⟩→∃cv w' ρ',(Builtin.append_ ts ty #[cs,cx]).run P w=.ok cv w'∧VR w' S ρ' d.v cv∧HR w' S ρ' (Bt g d.es)∧Ix w w' S S ρ ρ'∧jI (Kz d.es) w w' ρ ρ'∧lQ d.es ρ ρ':=by
    intro ob l c hcs hlc hd
    refine⟨cs,w,ρ,?_,by rw[hd];exact hs,by rw[hd];exact H,Ix.refl w S ρ,jI.refl,by rw[hd];exact lQ.refl⟩
    rw[hcs,afY h0 h1 hu hz hn (n:=0) s1 (by omega) (s2 w rfl)]
    cases ob<;>simp[storeCells]
   split at h
   ·simp at h;subst h;cases hs;exact fin _ _ _ rfl (aC7 _) rfl
   ·simp at h;subst h
    cases hs with
    |slr a b c=>exact fin _ _ _ rfl b rfl
    |slrD a b=>exact fin _ _ _ rfl b rfl
   ·simp at h;subst h
    cases hs with
    |imm f a b c d e g k=>exact fin _ _ _ rfl b rfl
   ·simp at h
  ·
   rename_i hne
   split at h
   ·rename_i hsz
    simp at h;subst h
    cases hs
    have hnp:0<new.length:=by rcases aOX new.length with h|h;(exact(hne (aLE h)).elim);exact h
    have hold:(Builtin.firstCells i.size 0 (.slice none 0 0)).run P w.drew=.ok #[] w.drew:=by simp[Builtin.firstCells]
    have hnew:(Builtin.firstCells i.size new.length cx).run P w.drew=.ok vals.toArray w.drew:=by rw[hin];exact s2 _ rfl
    have hr:=adJ (ty:=ty) h0 h1 hu hz hi hiz (base:=none) (sLen:=0) (sCap:=0) s1 (by omega) (by omega) (by omega) hold hnew
    generalize hC:aFG w (0+new.length) 0 e=C at hr
    have hCge:new.length≤C:=by rw[←hC];unfold aFG;omega
    generalize hA:(#[]++vals.toArray++Builtin.zeroCells cz.cells (C-(0+new.length)):Array Value)=A at hr
    have hAs:A.size=C*n:=by
     rw[←hA]
     simp[ae5,hzs,hvl]
     rw[←acR];congr 1;omega
    have hsd:=Ix.drew w S ρ
    have hblk:Ic w.drew S ρ A 0 n nfl new:=Ic.ofRows (more:=(Builtin.zeroCells cz.cells (C-(0+new.length))).toList) s4 s5 s6 (s3.sim hsd) (by rw[←hA];simp)
    refine⟨_,_,ρ.put base (.pl w.heap.size 0 n A.size),hr,?_,?_,hsd.trans (Ix.alloc (w:=w.drew) hb H.drew.old _ _ _ _),jI.alloc H.drew hb _ _ _,lQ.alloc⟩
    ·have:=VR.slr (w:=w.drew.alloc (.cells A e)) (S:=S) (r:=0) (len:=new.length) (cap:=C) (a:=⟨w.heap.size,0,none⟩) (Bq.put_same ρ base (.pl w.heap.size 0 n A.size)) hCge (.inr ⟨by simp,by simp[hAs]⟩)
     simpa using this
    ·simp only[Bt,Dq]
     exact H.drew.alloc hb hblk e
   ·simp at h
  ·
   rename_i st0 b r len hne
   split at h
   ·rename_i st fl wr rows hg
    split at h
    ·rename_i hc
     obtain⟨rfl,hrl,hsz⟩:=hc
     simp at h;subst h
     have hnp:0<new.length:=by rcases aOX new.length with h|h;(exact(hne (aLE h)).elim);exact h
     have hs0:=hs
     cases hs with
     |slrD hρ _=>rw[H.dead b hρ]at hg;simp at hg
     | @slr _ _ _ _ cb co _ sz cap a hρ hle ha=>
       obtain⟨c,e',fz,fl',rows',k1,k2,k3,k4⟩:=H.at_ b cb co st0 sz hρ
       rcases k4 with⟨⟨wr',k4⟩,hS,hfz⟩|⟨k4,_⟩
       ·rw[hg]at k4
        simp at k4
        obtain⟨rfl,rfl,rfl,rfl⟩:=k4
        have hrle:r≤rows.length:=by omega
        have hdl:((rows.drop r).take len).length=len:=by simp;omega
        by_cases hfit:len+new.length≤cap
        ·
         rcases ha with ha|⟨rfl,hcap⟩
         ·omega
         have hin:co+r*st+(len+new.length)*st≤c.size:=by
          have h7:(len+new.length)*st≤cap*st:=aCF _ hfit
          rw[acR]at hcap;rw[k2];omega
         have hblk:=((k3.drop r hrle).take len).more s3 s4 s5 s6 (by rw[hdl];exact hin)
         rw[hdl]at hblk
         have hst:=pB (P:=P) (g:=cb) (o:=co+r*st+len*st) vals 0 c w k1 (by rw[hvl];rw[acR]at hin;omega) (fun j h5 h6=>hfz j (by rw[hvl]at h6;rw[acR]at hin;omega))
          (s3.allCell (aAP.2 fun x hx=>by obtain⟨row,h5,h6⟩:=List.mem_flatten.1 hx;exact s6 row h5 x h6))
         refine⟨.slice (some ⟨cb,co+r*st,none⟩) (len+new.length) cap,setB w cb (.cells (Ym c (co+r*st+len*st+0) vals) e' fz),(ρ.put b .dead).put base (.pl cb (co+r*st) st sz),?_,?_,?_,Ix.rebase hρ hS ⟨_,_,_,k1⟩ hb _ _ _ _,?_,lQ.rebase hρ⟩
         ·rw[afY h0 h1 hu hz hn s1 hfit (s2 w rfl)]
          simp only[Ig]
          rw[hst];rfl
         ·refine .slr (Bq.put_same ..) hfit (.inr ⟨by simp,?_⟩)
          rw[acR]at hcap;simp;omega
         ·simp only[Bt,Dq]
          exact H.rebase hρ hS hb (by simp[aI,k2]) hfz ⟨_,_,_,k1⟩ hblk
         ·intro b' cb' co' st' sz' h' hn'
          obtain⟨q1,q2⟩:=jI.setB H hρ (E:=Kz [.put b .dead,.new base (.live st (fl&&nfl) false ((rows.drop r).take len++new))]) ⟨_,aHJ ..,rfl⟩ (.cells (Ym c (co+r*st+len*st+0) vals) e' fz) b' cb' co' st' sz' h' hn'
          refine⟨?_,q2⟩
          have hne1:b'≠base:=fun e=>by rw[e,hb]at h';cases h'
          have hne2:b'≠b:=fun e=>hn' ⟨_,aHJ ..,by rw[e];rfl⟩
          rw[Bq.put_other _ _ hne1,Bq.put_other _ _ hne2];exact h'
        ·
         have hsr:Hi P g e (.slr st b r len)=some (fl,(rows.drop r).take len,[.blk b]):=by
          have:Ju g b r len=some (st,fl,(rows.drop r).take len):=by
           simp only[Ju,hg]
           rw[if_pos (by omega)]
          simp[Hi,this,hn]
         obtain⟨olds,t1',t2,t3,t4,t5,t6⟩:=ah3 (P:=P) H hn hsr hs0
         have hol:olds.length=len*st:=by rw[←t3.1,Gm t4,hdl]
         have hold:(Builtin.firstCells i.size len (.slice (some a) len cap)).run P w.drew=.ok olds.toArray w.drew:=by
          have:=t2 w.drew rfl
          rw[hdl]at this;rw[hin];exact this
         have hnew:(Builtin.firstCells i.size new.length cx).run P w.drew=.ok vals.toArray w.drew:=by rw[hin];exact s2 _ rfl
         have hr:=adJ (ty:=ty) h0 h1 hu hz hi hiz (base:=some a) (sLen:=len) (sCap:=cap) s1 hfit (by omega) (by omega) hold hnew
         generalize hC:aFG w (len+new.length) cap e=C at hr
         have hCge:len+new.length≤C:=by rw[←hC];unfold aFG;omega
         generalize hA:(olds.toArray++vals.toArray++Builtin.zeroCells cz.cells (C-(len+new.length)):Array Value)=A at hr
         have hAs:A.size=C*st:=by
          rw[←hA]
          simp[ae5,hzs,hvl,hol]
          rw[←acR,←acR];congr 1;omega
         have hsd:=(Ix.drew w S ρ).trans (Ix.kill w.drew S ρ b)
         have hbk:(ρ.put b .dead) base=.fresh:=by
          rw[Bq.put_other _ _ (fun e=>by rw[e,hρ]at hb;cases hb)];exact hb
         have hblk:Ic w.drew S (ρ.put b .dead) A 0 st (fl&&nfl) ((rows.drop r).take len++new):=by
          refine Ic.ofRows (more:=(Builtin.zeroCells cz.cells (C-(len+new.length))).toList) (vs:=olds++vals) (fun x hx=>?_) (fun hf x hx=>?_) (fun x hx=>?_) ?_ (by rw[←hA];simp)
          ·rcases aIC.1 hx with hx|hx
           ·exact t4 x hx
           ·exact s4 x hx
          ·simp at hf
           rcases aIC.1 hx with hx|hx
           ·exact t5 hf.1 x hx
           ·exact s5 hf.2 x hx
          ·rcases aIC.1 hx with hx|hx
           ·exact t6 x hx
           ·exact s6 x hx
          ·rw[List.flatten_append]
           exact(t3.append s3).sim hsd
         refine⟨_,_,(ρ.put b .dead).put base (.pl w.heap.size 0 st A.size),hr,?_,?_,hsd.trans (Ix.alloc (w:=w.drew) hbk H.drew.old _ _ _ _),?_,lQ.rebase hρ⟩
         ·exact VR.slr (w:=w.drew.alloc (.cells A e)) (S:=S) (r:=0) (len:=len+new.length) (cap:=C) (a:=⟨w.heap.size,0,none⟩) (Bq.put_same (ρ.put b .dead) base (.pl w.heap.size 0 st A.size)) hCge (.inr ⟨by simp,by simp[hAs]⟩)
         ·simp only[Bt,Dq]
          exact(H.drew.kill b).alloc hbk hblk e
         ·intro b' cb' co' st' sz' h' hn'
          refine⟨?_,Ez (w:=w.drew) (H.lt h')⟩
          have hne1:b'≠base:=fun e=>by rw[e,hb]at h';cases h'
          have hne2:b'≠b:=fun e=>hn' ⟨_,aHJ ..,by rw[e];rfl⟩
          rw[Bq.put_other _ _ hne1,Bq.put_other _ _ hne2];exact h'
       ·rw[hg]at k4;simp at k4
    ·simp at h
   ·simp at h
  ·simp at h
end
end Go.Ev
