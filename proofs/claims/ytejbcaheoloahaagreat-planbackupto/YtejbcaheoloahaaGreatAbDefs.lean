import Derived.Calls
import Derived.Orders
set_option linter.unusedVariables false
namespace Go.Ab
open Go
inductive PV where
  | int (k:IntKind) (n:Int)
  | bool (b:Bool)
  | flt (k:FloatKind) (n:Nat)
  | str (s:ByteArray)
  | nilp
  | ptr (cells:List PV) (off:Nat)
  | nils
  | sl (rows:List (List PV))
  | fn (f:Nat) (first caps:List PV)
  | nilf
  | ifc (t:Nat) (p:PV)
  | nili
  | nilm
inductive AV where
  | pv (p:PV)
  | ptr (id off:Nat)
  | eptr (id g h esz i off:Nat)
  | ref (id g h esz off n:Nat)
  | map (id:Nat)
  | fn (f:Nat) (first caps:List AV)
  | agg (cells:List AV)
  | tup (vs:List AV)
  | undef
  | any
structure Row where
  rows:List (List PV)
  gen:Nat
  floor:Nat
  stable:Nat
  frz:Nat
def Row.valid (r:Row) (g h:Nat):Bool:=(g == r.gen && decide (r.floor≤h) && decide (h≤r.rows.length)) || (decide (g < r.gen) && decide (h≤r.stable) && decide (h≤r.rows.length))
inductive Blk where
  | box (cells:List AV) (frz:Bool)
  | row (e esz:Nat) (r:Row)
  | map (k e:Nat) (ents:List (PV × List PV))
  | dead
inductive TD where
  | scalar
  | slice (e:Nat)
  | struct (fs:List (Nat × Nat))
  | array (n e:Nat)
  | map (k e:Nat)
  | str
  | int (k:IntKind)
  | bool
  | flt (k:FloatKind)
  | ptr (e:Nat)
  | ifc
  | func
structure TI where
  desc:TD
  size:Nat
  bytes:Nat
  agg:Bool
  zero:List PV
inductive Mode where
  | pure
  | own
  | byref
  | ownAt (ks:List Nat)
  | byrefP
def Mode.isRef:Mode→Bool
  | .byref | .byrefP=>true
  | _=>false
structure Cfg where
  P:Program
  T:Nat→Option TI
  X:Nat→Option (List AV→Option AV)
  E:Nat→List Nat→Bool
  M:Nat→Mode
  K:Nat→Nat→List Nat
  D:Nat→Option (Nat × IntKind)
abbrev Look:=Nat→Option Blk
structure Eff where
  val:AV
  upd:List (Nat × Blk)
  new:List Blk
inductive Out where
  | ret (v:AV)
  | pan (v:AV)
abbrev ZH:=Nat→List AV→List Blk→Option (Out × List Blk)
def cut {α:Type} (cs:List α) (off n:Nat):Option (List α):=
  if off+n≤cs.length then some ((cs.drop off).take n) else none
def adf {α:Type} (cs:List α) (off:Nat) (vs:List α):Option (List α):=
  if off+vs.length≤cs.length then some (cs.take off++vs++cs.drop (off+vs.length)) else none
def ae2 (agg:Bool) (cs:List AV):Option AV:=
  if agg then some (.agg cs) else match cs with
    | [c]=>some c
    | _=>none
def AV.one:AV→Bool
  | .pv _ | .ptr .. | .eptr .. | .ref .. | .map _ | .fn ..=>true
  | _=>false
def AV.cells:AV→Option (List AV)
  | .agg cs=>if cs.all AV.one then some cs else none
  | .pv p=>some [.pv p]
  | .ptr i o=>some [.ptr i o]
  | .eptr i g h s k o=>some [.eptr i g h s k o]
  | .ref i g h s o n=>some [.ref i g h s o n]
  | .map i=>some [.map i]
  | .fn f a b=>some [.fn f a b]
  | _=>none
def aaO:List AV→Option (List PV)
  | []=>some []
  | .pv p :: r=>(aaO r).map (p :: ·)
  | _=>none
def ofConst:Value→AV
  | .int k n=>.pv (.int k n)
  | .bool b=>.pv (.bool b)
  | .float k n=>.pv (.flt k n)
  | .string s=>.pv (.str s)
  | .pointer none=>.pv .nilp
  | .slice none 0 0=>.pv .nils
  | .nilFunc=>.pv .nilf
  | .nilIface=>.pv .nili
  | .map none=>.pv .nilm
  | .agg cs=>.agg (cs.toList.map fun
      | .int k n=>.pv (.int k n)
      | .bool b=>.pv (.bool b)
      | .float k n=>.pv (.flt k n)
      | .string s=>.pv (.str s)
      | .pointer none=>.pv .nilp
      | .slice none 0 0=>.pv .nils
      | .nilFunc=>.pv .nilf
      | .nilIface=>.pv .nili
      | .map none=>.pv .nilm
      | _=>.any)
  | _=>.any
def qc (tmps:List AV):Operand→AV
  | .tmp t=>(tmps[t]?).getD .undef
  | .const v=>ofConst v
  | .func f=>.pv (.fn f [] [])
  | .global _=>.any
def qL (b:Bool):Option AV:=some (.pv (.bool b))
def amw (op:BinOp) (k:IntKind) (a b:Int):Option AV:=
  match op with
  | .add=>some (.pv (.int k (k.wrap (a+b))))
  | .sub=>some (.pv (.int k (k.wrap (a - b))))
  | .mul=>some (.pv (.int k (k.wrap (a * b))))
  | .quo=>if b=0 then none else some (.pv (.int k (k.wrap (a.tdiv b))))
  | .rem=>if b=0 then none else some (.pv (.int k (a.tmod b)))
  | .and=>some (.pv (.int k (k.wrap (BitVec.ofInt k.bits a &&& BitVec.ofInt k.bits b).toNat)))
  | .or=>some (.pv (.int k (k.wrap (BitVec.ofInt k.bits a ||| BitVec.ofInt k.bits b).toNat)))
  | .xor=>some (.pv (.int k (k.wrap (BitVec.ofInt k.bits a ^^^ BitVec.ofInt k.bits b).toNat)))
  | .andNot=>some (.pv (.int k (k.wrap (BitVec.ofInt k.bits a &&& ~~~BitVec.ofInt k.bits b).toNat)))
  | .eql=>qL (a == b)
  | .neq=>qL (a != b)
  | .lss=>qL (decide (a < b))
  | .leq=>qL (decide (a≤b))
  | .gtr=>qL (decide (a > b))
  | .geq=>qL (decide (a≥b))
  | _=>none
def abV (op:BinOp) (k:IntKind) (a b:Int):Option AV:=
  if b < 0 then none else
  match op with
  | .shl=>some (.pv (.int k (k.wrap (a * 2 ^ (min b.toNat k.bits)))))
  | .shr=>some (.pv (.int k (a.fdiv (2 ^ (min b.toNat k.bits)))))
  | _=>none
def amS (op:BinOp) (k:FloatKind) (a b:Nat):Option AV:=
  let c:=k.format.order a b
  match op with
  | .eql=>qL (c == some .eq)
  | .neq=>qL (c != some .eq)
  | .lss=>qL (c == some .lt)
  | .leq=>qL (c == some .lt || c == some .eq)
  | .gtr=>qL (c == some .gt)
  | .geq=>qL (c == some .gt || c == some .eq)
  | .add=>(k.format.add a b).map fun r=>.pv (.flt k r)
  | .sub=>(k.format.sub a b).map fun r=>.pv (.flt k r)
  | .mul=>(k.format.mul a b).map fun r=>.pv (.flt k r)
  | .quo=>(k.format.div a b).map fun r=>.pv (.flt k r)
  | _=>none
def amG (op:BinOp) (x y:ByteArray):Option AV:=
  let eq:=x.toList == y.toList
  let lt:=Op.bytesLess x.toList y.toList
  match op with
  | .add=>if x.size+y.size≤9223372036854775807 then some (.pv (.str (x++y))) else none
  | .eql=>qL eq
  | .neq=>qL (!eq)
  | .lss=>qL lt
  | .leq=>qL (lt || eq)
  | .gtr=>qL (!(lt || eq))
  | .geq=>qL (!lt)
  | _=>none
def akX:AV→Option Bool
  | .pv .nilp=>some true
  | .pv (.ptr ..) | .ptr .. | .eptr ..=>some false
  | _=>none
def aob:AV→Option Bool
  | .pv .nils=>some true
  | .pv (.sl _) | .ref ..=>some false
  | _=>none
def amA:AV→AV→Option Bool
  | .pv (.int j a),.pv (.int k b)=>if j=k then some (a == b) else none
  | .pv (.bool a),.pv (.bool b)=>some (a == b)
  | .pv (.str a),.pv (.str b)=>some (a == b)
  | _,_=>none
def Qg:List AV→List AV→Option Bool
  | [],[]=>some true
  | a :: as,b :: bs=>
    match amA a b,Qg as bs with
    | some x,some y=>some (x && y)
    | _,_=>none
  | _,_=>none
def akf (op:BinOp) (b:Option Bool):Option AV:=
  match op with
  | .eql=>b.map fun b=>.pv (.bool b)
  | .neq=>b.map fun b=>.pv (.bool (!b))
  | _=>none
def aau:AV→Nat
  | .pv (.int ..)=>1
  | .pv (.bool _)=>2
  | .pv (.str _)=>3
  | _=>0
def aBin (d:Option TD) (E:List Nat→Bool) (op:BinOp) (x y:AV):Option AV:=
  match x,y with
  | .pv (.int k a),.pv (.int k' b)=>
    match op with
    | .shl=>abV .shl k a b
    | .shr=>abV .shr k a b
    | _=>if k=k' then amw op k a b else none
  | .pv (.flt k a),.pv (.flt k' b)=>if k=k' then amS op k a b else none
  | .pv (.str a),.pv (.str b)=>amG op a b
  | .pv (.bool a),.pv (.bool b)=>match d with
    | some .bool=>akf op (some (a == b))
    | _=>none
  | .agg a,.agg b=>if E (a.map aau) then akf op (Qg a b) else none
  | x,.pv .nilp=>match d with
    | some (.ptr _)=>akf op (akX x)
    | _=>none
  | x,.pv .nils=>match d with
    | some (.slice _)=>akf op (aob x)
    | _=>none
  | _,_=>none
def aUn (op:UnOp) (x:AV):Option AV:=
  match op,x with
  | .neg,.pv (.int k n)=>some (.pv (.int k (k.wrap (0 - n))))
  | .xor,.pv (.int k n)=>some (.pv (.int k (k.wrap (BitVec.ofInt k.bits (if k.signed then -1 else k.max) ^^^ BitVec.ofInt k.bits n).toNat)))
  | .neg,.pv (.flt k b)=>some (.pv (.flt k (Op.negFloat k b)))
  | .not,.pv (.bool b)=>some (.pv (.bool !b))
  | _,_=>none
def ZA (s:ByteArray):List (List PV):=s.data.toList.map fun b=>[.int .u8 (b.toNat:Int)]
def qX:List (List PV)→Option (List UInt8)
  | []=>some []
  | [.int .u8 n] :: r=>(qX r).map (UInt8.ofNat n.toNat :: ·)
  | _=>none
def rowsOf (x:AV) (look:Look):Option (List (List PV)):=
  match x with
  | .pv .nils=>some []
  | .pv (.sl rows)=>some rows
  | .ref id g h esz off n=>
    match look id with
    | some (.row _ esz' r)=>if r.valid g h && esz == esz' && decide (off+n≤h) then some ((r.rows.drop off).take n) else none
    | _=>none
  | _=>none
def lenA (x:AV):Option Nat:=
  match x with
  | .pv .nils=>some 0
  | .pv (.sl rows)=>some rows.length
  | .ref _ _ _ _ _ n=>some n
  | .pv (.str s)=>some s.size
  | _=>none
def agC (T:Nat→Option TI) (src dst:Nat) (x:AV) (look:Look):Option AV:=
  match T src,T dst with
  | some s,some d=>
    match d.desc,x with
    | .int k,.pv (.int _ n)=>some (.pv (.int k (k.wrap n)))
    | .str,.pv (.str s)=>some (.pv (.str s))
    | .slice e,.pv (.str b)=>
      match T e with
      | some { desc:=.int .u8,.. }=>some (.pv (.sl (ZA b)))
      | _=>none
    | .str,x=>
      match s.desc with
      | .slice e=>
        match T e with
        | some { desc:=.int .u8,.. }=>((rowsOf x look).bind qX).map fun l=>.pv (.str ⟨l.toArray⟩)
        | _=>none
      | _=>none
    | _,_=>none
  | _,_=>none
def aee (T:Nat→Option TI) (t:Nat) (p:AV) (look:Look):Option AV:=
  match T t with
  | none=>none
  | some ti=>
    match p with
    | .pv (.ptr cells off)=>(cut cells off ti.size).bind fun r=>ae2 ti.agg (r.map .pv)
    | .ptr id off=>
      match look id with
      | some (.box cells _)=>(cut cells off ti.size).bind (ae2 ti.agg)
      | _=>none
    | .eptr id g h esz i off=>
      match look id with
      | some (.row _ esz' r)=>
        if r.valid g h && esz == esz' && decide (i < h) then
          (r.rows[i]?).bind fun c=>(cut c off ti.size).bind fun r=>ae2 ti.agg (r.map .pv)
        else none
      | some (.box cells _)=>(cut cells (i * esz+off) ti.size).bind (ae2 ti.agg)
      | _=>none
    | _=>none
def abw (T:Nat→Option TI) (t:Nat) (p v:AV) (look:Look):Option Eff:=
  match T t,v.cells with
  | some ti,some vs=>
    if vs.length=ti.size then
      match p with
      | .ptr id off=>
        match look id with
        | some (.box cells false)=>(adf cells off vs).map fun cs=>⟨.undef,[(id,.box cs false)],[]⟩
        | _=>none
      | .eptr id g h esz i off=>
        match look id with
        | some (.row e esz' r)=>
          if g=r.gen∧h=r.rows.length∧r.floor≤h∧esz=esz'∧i < h∧r.frz=0 then
            match aaO vs,r.rows[i]? with
            | some ps,some c=>(adf c off ps).map fun cs=>⟨.undef,[(id,.row e esz { r with rows:=r.rows.set i cs,floor:=h,stable:=0 })],[]⟩
            | _,_=>none
          else none
        | _=>none
      | _=>none
    else none
  | _,_=>none
def akY (T:Nat→Option TI) (s:Nat) (p:AV) (f:Nat):Option AV:=
  match T s with
  | some { desc:=.struct fs,.. }=>
    match fs[f]? with
    | some (o,ft)=>
      match T ft with
      | some fi=>
        if fi.size=0 then none else
        match p with
        | .pv (.ptr cells off)=>some (.pv (.ptr cells (off+o)))
        | .ptr id off=>some (.ptr id (off+o))
        | .eptr id g h esz i off=>some (.eptr id g h esz i (off+o))
        | _=>none
      | none=>none
    | none=>none
  | _=>none
def ahc (T:Nat→Option TI) (s:Nat) (x:AV) (f:Nat):Option AV:=
  match T s,x with
  | some { desc:=.struct fs,.. },.agg cs=>
    match fs[f]? with
    | some (o,ft)=>
      match T ft with
      | some fi=>(cut cs o fi.size).bind (ae2 fi.agg)
      | none=>none
    | none=>none
  | _,_=>none
def qv (T:Nat→Option TI) (t:Nat) (x ix:AV):Option AV:=
  match T t,ix with
  | some { desc:=.slice e,.. },.pv (.int _ i)=>
    match T e with
    | some ei=>
      if 0≤i then
        match x with
        | .pv (.sl rows)=>
          match rows[i.toNat]? with
          | some c=>if c.length=ei.size then some (.pv (.ptr c 0)) else none
          | none=>none
        | .ref id g h esz off n=>if i.toNat < n∧esz=ei.size then some (.eptr id g h esz (off+i.toNat) 0) else none
        | _=>none
      else none
    | none=>none
  | some { desc:=.array n e,.. },.pv (.int _ i)=>
    match T e with
    | some ei=>
      if 0≤i∧i < n then
        match x with
        | .pv (.ptr cells off)=>some (.pv (.ptr cells (off+i.toNat * ei.size)))
        | .ptr id off=>some (.ptr id (off+i.toNat * ei.size))
        | .eptr id g h esz k off=>some (.eptr id g h esz k (off+i.toNat * ei.size))
        | _=>none
      else none
    | none=>none
  | _,_=>none
def amn (x ix:AV):Option AV:=
  match x,ix with
  | .pv (.str s),.pv (.int _ i)=>
    if 0≤i then (s.data.toList[i.toNat]?).map fun b=>.pv (.int .u8 (b.toNat:Int)) else none
  | _,_=>none
def akN (T:Nat→Option TI) (n e:Nat) (x ix:AV):Option AV:=
  match T e,x,ix with
  | some ei,.agg cs,.pv (.int _ i)=>if 0≤i∧i < n then (cut cs (i.toNat * ei.size) ei.size).bind (ae2 ei.agg) else none
  | _,_,_=>none
def bound (x:Option AV) (d:Nat):Option Nat:=
  match x with
  | none=>some d
  | some (.pv (.int _ i))=>if 0≤i then some i.toNat else none
  | _=>none
def abE (esz:Nat) (x:AV) (lo hi:Option AV):Option AV:=
  match lenA x with
  | none=>none
  | some n=>
    match bound lo 0,bound hi n with
    | some l,some h=>
      if l≤h∧h≤n then
        match x with
        | .pv (.str s)=>some (.pv (.str (s.extract l h)))
        | .pv (.sl rows)=>if h=l then some (.pv (.sl [])) else if (rows[l]?).map List.length=some esz then some (.pv (.sl ((rows.drop l).take (h - l)))) else none
        | .pv .nils=>some (.pv .nils)
        | .ref id g hd esz' off _=>if esz'=esz then some (.ref id g hd esz' (off+l) (h - l)) else none
        | _=>none
      else match x with
        | .ref id g hd esz' 0 _=>if l≤h∧h≤hd∧esz'=esz then some (.ref id g hd esz' l (h - l)) else none
        | _=>none
    | _,_=>none
def aih (x:AV) (lo hi mx:Option AV):Option AV:=
  match lenA x with
  | none=>none
  | some n=>
    match hi,mx,bound lo 0,bound hi n,bound mx n with
    | some _,some _,some l,some h,some k=>
      if l≤h∧h≤k∧k≤n then
        match x with
        | .pv (.sl _) | .pv .nils | .ref ..=>some .any
        | _=>none
      else none
    | _,_,_,_,_=>none
def aeY (ti:TI):List AV:=ti.zero.map .pv
def aan (cells:List AV) (place:Nat→Option (Nat × Nat)):List (Nat × AV)→Option (List AV)
  | []=>some cells
  | (i,v) :: rest=>
    match place i,v.cells with
    | some (off,size),some vs=>
      if vs.length=size then (adf cells off vs).bind fun cs=>aan cs place rest else none
    | _,_=>none
def acZ (T:Nat→Option TI) (fs:List (Nat × Nat)) (i:Nat):Option (Nat × Nat):=
  match fs[i]? with
  | some (o,ft)=>(T ft).map fun fi=>(o,fi.size)
  | none=>none
def ame (T:Nat→Option TI) (t:Nat) (parts:List (Nat × AV)):Option AV:=
  match T t with
  | some ti=>
    match ti.desc with
    | .struct fs=>if fs.all fun p=>(T p.2).isSome then (aan (aeY ti) (acZ T fs) parts).map .agg else none
    | .array _ e=>(T e).bind fun ei=>(aan (aeY ti) (fun i=>some (i * ei.size,ei.size)) parts).map .agg
    | _=>none
  | none=>none
def chunk (esz:Nat):Nat→List PV→List (List PV)
  | 0,_=>[]
  | n+1,cs=>cs.take esz :: chunk esz n (cs.drop esz)
def aaC (T:Nat→Option TI) (nid:Nat) (t len:Nat) (parts:List (Nat × AV)):Option Eff:=
  match T t with
  | some { desc:=.slice e,.. }=>
    match T e with
    | some ei=>
      if ei.size=0∨len * ei.size > 16777216 then none else
      (aan ((List.range (len * ei.size)).map fun i=>.pv ((ei.zero[i % ei.size]?).getD .nilp)) (fun i=>some (i * ei.size,ei.size)) parts).bind fun cs=>
      match aaO cs with
      | some ps=>some ⟨.ref nid 0 len ei.size 0 len,[],[.row e ei.size ⟨chunk ei.size len ps,0,0,0,0⟩]⟩
      | none=>some ⟨.ref nid 0 len ei.size 0 len,[],[.box cs false]⟩
    | none=>none
  | _=>none
def refSl (T:Nat→Option TI) (t:Nat):Bool:=
  match T t with
  | some { desc:=.slice e,.. }=>
    match T e with
    | some { desc:=.ptr e2,.. }=>
      match T e2 with
      | some { desc:=.slice _,.. }=>true
      | _=>false
    | _=>false
  | _=>false
def adK (T:Nat→Option TI) (nid:Nat) (t:Nat) (len cap:AV):Option Eff:=
  match T t,len,cap with
  | some { desc:=.slice e,.. },.pv (.int _ n),.pv (.int _ c)=>
    match T e with
    | some ei=>
      if ei.size≠0∧0≤n∧n≤c∧c * ei.bytes≤140737488355328∧c≤9223372036854775807 then
        some ⟨.ref nid 0 n.toNat ei.size 0 n.toNat,[],[.row e ei.size ⟨List.replicate n.toNat ei.zero,0,0,0,0⟩]⟩
      else none
    | none=>none
  | _,_,_=>none
def qT (T:Nat→Option TI) (nid:Nat) (t:Nat) (x:AV) (rows:List (List PV)) (look:Look):Option Eff:=
  match T t with
  | some { desc:=.slice e,.. }=>
    match T e with
    | some ei=>
      if ei.size≠0∧(rows.all fun c=>c.length == ei.size) then
        match x with
        | .pv .nils=>
          if rows.isEmpty then some ⟨.pv .nils,[],[]⟩
          else if rows.length * ei.bytes≤140737488355328∧rows.length≤9223372036854775807 then
            some ⟨.ref nid 0 rows.length ei.size 0 rows.length,[],[.row e ei.size ⟨rows,0,0,0,0⟩]⟩
          else none
        | .ref id g h esz off n=>
          match look id with
          | some (.row e' esz' r)=>
            if r.valid g h∧off=0∧n=h∧esz=ei.size∧esz'=esz∧e'=e∧(h+rows.length) * ei.bytes≤140737488355328∧h+rows.length≤9223372036854775807 then
              if rows.isEmpty then some ⟨.ref id g h esz 0 h,[],[]⟩
              else if g=r.gen∧h=r.rows.length then
                some ⟨.ref id g (h+rows.length) esz 0 (h+rows.length),[(id,.row e esz { r with rows:=r.rows++rows })],[]⟩
              else if r.floor=0∧r.frz≤h then
                some ⟨.ref id (r.gen+1) (h+rows.length) esz 0 (h+rows.length),
                  [(id,.row e esz ⟨r.rows.take h++rows,r.gen+1,0,if r.gen=0 then h else min r.stable h,r.frz⟩)],[]⟩
              else none
            else if g=r.gen∧h=r.rows.length∧r.floor≤h∧off=0∧n+rows.length≤h∧esz=ei.size∧esz'=esz∧e'=e∧r.frz=0 then
              if rows.isEmpty then some ⟨.ref id g h esz 0 n,[],[]⟩
              else some ⟨.ref id g h esz 0 (n+rows.length),[(id,.row e esz { r with rows:=r.rows.take n++(rows++r.rows.drop (n+rows.length)),floor:=h,stable:=0 })],[]⟩
            else none
          | _=>none
        | _=>none
      else none
    | none=>none
  | _=>none
def ag8 (T:Nat→Option TI) (t:Nat) (x:AV) (look:Look):Option Eff:=
  match T t with
  | some { desc:=.slice e,.. }=>
    match T e with
    | some ei=>
      match x with
      | .pv .nils=>some ⟨.tup [],[],[]⟩
      | .ref id g h esz off n=>
        if n=0 then some ⟨.tup [],[],[]⟩ else
        match look id with
        | some (.row e' esz' r)=>
          if g=r.gen∧h=r.rows.length∧r.floor≤h∧off+n≤h∧esz=ei.size∧esz'=esz∧e'=e∧r.frz=0∧esz≠0 then
            some ⟨.tup [],[(id,.row e esz { r with rows:=r.rows.take off++(List.replicate n ei.zero++r.rows.drop (off+n)),floor:=h,stable:=0 })],[]⟩
          else none
        | _=>none
      | _=>none
    | none=>none
  | _=>none
def aiY (T:Nat→Option TI) (t:Nat) (x:AV) (rows:List (List PV)) (look:Look):Option Eff:=
  match T t with
  | some { desc:=.slice e,.. }=>
    match T e with
    | some ei=>
      match x with
      | .ref id g h esz off n=>
        match look id with
        | some (.row e' esz' r)=>
          if g=r.gen∧h=r.rows.length∧r.floor≤h∧off=0∧n=h∧esz=ei.size∧esz'=esz∧r.frz=0∧esz≠0∧rows.length≤n∧(rows.all fun c=>c.length == esz) then
            some ⟨.pv (.int .i64 rows.length),[(id,.row e' esz { r with rows:=rows++r.rows.drop rows.length,floor:=h,stable:=0 })],[]⟩
          else none
        | _=>none
      | _=>none
    | none=>none
  | _=>none
def akB:TD→PV→PV→Option Bool
  | .int _,.int k a,.int k' b=>if k=k' then some (a == b) else none
  | .str,.str a,.str b=>some (a == b)
  | .bool,.bool a,.bool b=>some (a == b)
  | _,_,_=>none
def am2:TD→Bool
  | .int _ | .str | .bool=>true
  | _=>false
def afS (d:TD) (k:PV):List (PV × List PV)→Nat→Option (Option (Nat × List PV))
  | [],_=>some none
  | e :: r,i=>
    match akB d k e.1 with
    | some true=>some (some (i,e.2))
    | some false=>afS d k r (i+1)
    | none=>none
def ag5 (m:AV) (look:Look):Option (List (PV × List PV)):=
  match m with
  | .pv .nilm=>some []
  | .map id=>match look id with
    | some (.map _ _ es)=>some es
    | _=>none
  | _=>none
def agF (T:Nat→Option TI) (nid t:Nat):Option Eff:=
  match T t with
  | some { desc:=.map k e,.. }=>some ⟨.map nid,[],[.map k e []]⟩
  | _=>none
def looked (ok:Bool):List PV × Bool→Option AV
  | ([p],b)=>some (if ok then .tup [.pv p,.pv (.bool b)] else .pv p)
  | _=>none
def afa (T:Nat→Option TI) (t:Nat) (m x:AV) (ok:Bool) (look:Look):Option AV:=
  match T t,x with
  | some { desc:=.map k e,.. },.pv key=>
    match T k,T e with
    | some ki,some ei=>
      if am2 ki.desc=true∧ei.agg=false then
        (ag5 m look).bind fun es=>(afS ki.desc key es 0).bind fun r=>
          looked ok (match r with
            | some v=>(v.2,true)
            | none=>(ei.zero,false))
      else none
    | _,_=>none
  | _,_=>none
def anc (key p:PV) (es:List (PV × List PV)):Option (Nat × List PV)→List (PV × List PV)
  | some v=>es.set v.1 (key,[p])
  | none=>es++[(key,[p])]
def abF (T:Nat→Option TI) (t:Nat) (m k x:AV) (look:Look):Option Eff:=
  match T t,m,k,x with
  | some { desc:=.map kt e,.. },.map id,.pv key,.pv p=>
    match T kt,look id with
    | some ki,some (.map a b es)=>
      if am2 ki.desc=true then (afS ki.desc key es 0).map fun r=>⟨.undef,[(id,.map a b (anc key p es r))],[]⟩ else none
    | _,_=>none
  | _,_,_,_=>none
def zP (x:AV) (look:Look):Option (List (List PV)):=
  match x with
  | .pv (.str s)=>some (ZA s)
  | x=>rowsOf x look
def minA (x y:AV):Option AV:=
  match x,y with
  | .pv (.int k a),.pv (.int k' b)=>if k=k' then some (.pv (.int k (if b < a then b else a))) else none
  | _,_=>none
def maxA (x y:AV):Option AV:=
  match x,y with
  | .pv (.int k a),.pv (.int k' b)=>if k=k' then some (.pv (.int k (if b > a then b else a))) else none
  | _,_=>none
def alj (f:AV→AV→Option AV):AV→List AV→Option AV
  | x,[]=>some x
  | x,y :: r=>(f x y).bind fun z=>alj f z r
mutual
def AV.ids:AV→List Nat
  | .pv _=>[]
  | .ptr i _=>[i]
  | .eptr i _ _ _ _ _=>[i]
  | .ref i _ _ _ _ _=>[i]
  | .map i=>[i]
  | .fn _ a b=>AV.idsL a++AV.idsL b
  | .agg cs=>AV.idsL cs
  | .tup vs=>AV.idsL vs
  | .undef=>[]
  | .any=>[]
def AV.idsL:List AV→List Nat
  | []=>[]
  | v :: r=>AV.ids v++AV.idsL r
end
def Blk.ids:Blk→List Nat
  | .box cells _=>AV.idsL cells
  | _=>[]
def reach (look:Look):Nat→List Nat→List Nat→List Nat
  | 0,_,acc=>acc
  | _+1,[],acc=>acc
  | n+1,i :: todo,acc=>
    if acc.contains i then reach look n todo acc
    else match look i with
      | some b=>reach look n (b.ids++todo) (acc++[i])
      | none=>reach look n todo (acc++[i])
mutual
def AV.ren (f:Nat→Option Nat):AV→Option AV
  | .pv p=>some (.pv p)
  | .ptr i o=>(f i).map fun i=>.ptr i o
  | .eptr i g h s k o=>(f i).map fun i=>.eptr i g h s k o
  | .ref i g h s o n=>(f i).map fun i=>.ref i g h s o n
  | .map i=>(f i).map fun i=>.map i
  | .fn x a b=>(AV.renL f a).bind fun a=>(AV.renL f b).map fun b=>.fn x a b
  | .agg cs=>(AV.renL f cs).map .agg
  | .tup vs=>(AV.renL f vs).map .tup
  | .undef=>some .undef
  | .any=>some .any
def AV.renL (f:Nat→Option Nat):List AV→Option (List AV)
  | []=>some []
  | v :: r=>(AV.ren f v).bind fun v=>(AV.renL f r).map fun r=>v :: r
end
def Blk.ren (f:Nat→Option Nat):Blk→Option Blk
  | .box cells z=>(AV.renL f cells).map fun cs=>.box cs z
  | b=>some b
def qQ (f:Nat→Option Nat):List Blk→Option (List Blk)
  | []=>some []
  | b :: r=>(b.ren f).bind fun b=>(qQ f r).map fun r=>b :: r
def getAll (look:Look):List Nat→Option (List Blk)
  | []=>some []
  | i :: r=>(look i).bind fun b=>(getAll look r).map fun r=>b :: r
def placeOf (l:List Nat) (i:Nat):Option Nat:=l.idxOf? i
def adB (f:AV→Option PV):List AV→Option (List PV)
  | []=>some []
  | v :: r=>(f v).bind fun v=>(adB f r).map fun r=>v :: r
def AV.pureOf (look:Look):Nat→AV→Option PV
  | 0,v=>match v with
    | .pv p=>some p
    | _=>none
  | n+1,v=>
    match v with
    | .pv p=>some p
    | .ptr id off=>
      match look id with
      | some (.box cells _)=>(adB (AV.pureOf look n) cells).map fun cs=>.ptr cs off
      | _=>none
    | .eptr id g h esz i off=>
      match look id with
      | some (.row _ esz' r)=>if r.valid g h && esz == esz' && decide (i < h) then (r.rows[i]?).map fun c=>.ptr c off else none
      | _=>none
    | .ref id g h esz off k=>
      match look id with
      | some (.row _ esz' r)=>if r.valid g h && esz == esz' && decide (off+k≤h) then some (.sl ((r.rows.drop off).take k)) else none
      | _=>none
    | .fn f a b=>(adB (AV.pureOf look n) a).bind fun a=>(adB (AV.pureOf look n) b).map fun b=>.fn f a b
    | _=>none
def AV.puri (look:Look) (v:AV):Option AV:=
  match v with
  | .agg cs=>(adB (AV.pureOf look 4) cs).map fun ps=>.agg (ps.map .pv)
  | v=>(AV.pureOf look 4 v).map .pv
def aa6 (look:Look):List AV→Option (List AV)
  | []=>some []
  | v :: r=>(v.puri look).bind fun v=>(aa6 look r).map fun r=>v :: r
def AV.puriRes (look:Look) (v:AV):Option AV:=
  match v with
  | .tup vs=>(aa6 look vs).map .tup
  | v=>v.puri look
def PV.flat:PV→Bool
  | .int .. | .bool _ | .flt .. | .str _ | .nilp | .nilf | .nili | .nilm | .ifc _ (.int ..)=>true
  | _=>false
def AV.flat1:AV→Bool
  | .pv p=>p.flat
  | _=>false
def AV.flat2:AV→Bool
  | .agg cs=>cs.all AV.flat1
  | v=>v.flat1
def AV.flat:AV→Bool
  | .tup vs=>vs.all AV.flat2
  | v=>v.flat2
def Blk.freeze:Blk→Blk
  | .box cells _=>.box cells true
  | .row e esz r=>.row e esz { r with frz:=max r.frz r.rows.length }
  | b=>b
structure St where
  tmps:List AV
  heap:List Blk
inductive Ex where
  | normal
  | exit (id:Nat)
  | goto (l:Nat)
  | ret
  | panic (v:AV)
inductive Res where
  | ok (e:Eff)
  | pan (e:Eff)
def zp (H:List Blk):Look:=fun i=>H[i]?
def putA (tmps:List AV) (dst:Option Nat) (v:AV):List AV:=
  match dst with
  | some d=>tmps.set d v
  | none=>tmps
def aev (H:List Blk):List (Nat × Blk)→List Blk
  | []=>H
  | (i,b) :: r=>aev (H.set i b) r
def qy (H:List Blk) (e:Eff):List Blk:=aev H e.upd++e.new
def Zl:Nat:=64
def adG (n0:Nat) (vs:List AV) (H:List Blk):Option (List AV × List Blk):=
  if H.length=n0 then some (vs,H) else
  let order:=reach (zp H) Zl (AV.idsL vs++(H.take n0).flatMap Blk.ids) (List.range n0)
  (AV.renL (placeOf order) vs).bind fun vs=>(getAll (zp H) order).bind fun bs=>(qQ (placeOf order) bs).map fun bs=>(vs,bs)
def aap:List Nat→List Blk→List (Nat × Blk)
  | i :: is,b :: bs=>(i,b) :: aap is bs
  | _,_=>[]
def Zk (look:Look):List Nat→List (Nat × Blk)
  | []=>[]
  | i :: r=>match look i with
    | some b=>(i,b.freeze) :: Zk look r
    | none=>Zk look r
def qz (C:ZH) (f:Nat) (args:List AV) (look:Look) (nid:Nat):Option Res:=
  let R:=reach look Zl (AV.idsL args) []
  (aa6 (fun i=>if R.contains i then look i else none) args).bind fun ps=>
  match C f ps [] with
  | some (.ret v,bs)=>
    if v.flat && bs.isEmpty then some (.ok ⟨v,[],[]⟩) else
    (v.ren fun i=>some (nid+i)).bind fun v=>(qQ (fun i=>some (nid+i)) bs).map fun bs=>
      .ok ⟨v,Zk look R,bs⟩
  | some (.pan v,bs)=>if v.flat && bs.isEmpty then some (.pan ⟨v,[],[]⟩) else none
  | none=>none
def QC (C:ZH) (f:Nat) (args:List AV) (look:Look) (nid:Nat):Option Res:=
  let R:=reach look Zl (AV.idsL args) []
  (AV.renL (placeOf R) args).bind fun as=>
  (getAll look R).bind fun bs=>
  (qQ (placeOf R) bs).bind fun bs=>
  match C f as bs with
  | some (o,bs')=>
    let back:Nat→Option Nat:=fun j=>match R[j]? with
      | some i=>some i
      | none=>some (nid+(j - R.length))
    (qQ back bs').bind fun bs'=>
    match o with
    | .ret v=>(v.ren back).map fun v=>.ok ⟨v,aap R bs',bs'.drop R.length⟩
    | .pan v=>(v.ren back).map fun v=>.pan ⟨v,aap R bs',bs'.drop R.length⟩
  | none=>none
def led1:AV→Bool
  | .ptr .. | .eptr .. | .ref .. | .fn ..=>true
  | _=>false
def led:List AV→Bool
  | []=>false
  | .ptr .. :: _ | .eptr .. :: _ | .ref .. :: _ | .fn .. :: _=>true
  | .agg cs :: r=>cs.any led1 || led r
  | _ :: r=>led r
def Qw (T:Nat→Option TI) (nid t len:Nat) (is:List Nat) (vs:List AV) (look:Look):Option Eff:=
  let R:=reach look Zl (AV.idsL vs) []
  (aa6 (fun i=>if R.contains i then look i else none) vs).bind fun ps=>
  (aaC T nid t len (is.zip ps)).map fun e=>⟨e.val,Zk look R,e.new⟩
def qB:AV→List Nat
  | .ptr i _ | .eptr i _ _ _ _ _ | .ref i _ _ _ _ _ | .map i=>[i]
  | _=>[]
def isE:AV→Bool
  | .eptr ..=>true
  | _=>false
def ae3 (T:Nat→Option TI) (t:Nat) (p v:AV) (look:Look):Option Eff:=
  let R:=reach look Zl (AV.idsL [v]) []
  if (qB p).any R.contains then none else
  (v.puri (fun i=>if R.contains i then look i else none)).bind fun v'=>(abw T t p v' look).map fun e=>⟨e.val,Zk look R++e.upd,e.new⟩
def acs (T:Nat→Option TI) (n e:Nat) (x:AV) (look:Look):Option Eff:=
  match T e,x with
  | some ei,.ptr id off=>
    let R:=reach look Zl [id] []
    match (AV.ptr id off).puri (fun i=>if R.contains i then look i else none) with
    | some (.pv (.ptr cells o))=>
      if 0 < n∧o+n * ei.size≤cells.length then some ⟨.pv (.sl (chunk ei.size n (cells.drop o))),Zk look R,[]⟩ else none
    | _=>none
  | _,_=>none
def callee (f:AV) (args:List AV):Option (Nat × List AV):=
  match f with
  | .pv (.fn f a b)=>some (f,a.map .pv++args++b.map .pv)
  | .fn f a b=>some (f,a++args++b)
  | _=>none
def ajk (G:Cfg) (C:ZH) (f:AV) (args:List AV) (look:Look) (nid:Nat):Option Res:=
  match callee f args with
  | none=>none
  | some (f,args)=>
    match G.P.funcs[f]? with
    | none=>none
    | some fn=>
      if fn.name == "runtime.NumGoroutine" then none
      else if fn.body.isNone then (G.X f).bind fun x=>(x args).map fun v=>.ok ⟨v,[],[]⟩
      else if (G.M f).isRef then QC C f args look nid else qz C f args look nid
def okE (e:Option Eff):Option Res:=e.map .ok
def okV (v:Option AV):Option Res:=v.map fun v=>.ok ⟨v,[],[]⟩
def aaT (G:Cfg) (b:Builtin) (ts:List Nat) (args:List AV) (look:Look) (nid:Nat):Option Res:=
  match b,ts,args with
  | .len,[t],[x]=>match G.T t,x with
    | some { desc:=.str,.. },.pv (.str s)=>okV (some (.pv (.int .i64 s.size)))
    | some { desc:=.slice _,.. },.pv (.str _)=>none
    | some { desc:=.slice _,.. },x=>okV ((lenA x).map fun (n:Nat)=>AV.pv (.int .i64 (n:Int)))
    | _,_=>none
  | .append,[t,u],[x,y]=>
    match G.T u with
    | some { desc:=.str,.. } | some { desc:=.slice _,.. }=>(zP y look).bind fun rows=>okE (qT G.T nid t x rows look)
    | _=>none
  | .copy,[t,u],[x,y]=>
    match G.T u with
    | some { desc:=.str,.. } | some { desc:=.slice _,.. }=>(zP y look).bind fun rows=>okE (aiY G.T t x rows look)
    | _=>none
  | .clear,[t],[x]=>okE (ag8 G.T t x look)
  | .min,_,x :: r=>okV (alj minA x r)
  | .max,_,x :: r=>okV (alj maxA x r)
  | _,_,_=>none
def aOp (G:Cfg) (C:ZH) (ρ:Operand→AV) (o:Oper) (look:Look) (nid:Nat):Option Res:=
  match o.op with
  | .move x | .assign x=>match ρ x with
    | .any=>none
    | v=>okV (some v)
  | .pick c a b=>match ρ c with
    | .pv (.bool t)=>okV (some (if t then ρ a else ρ b))
    | _=>none
  | .alloc e=>(G.T e).bind fun ti=>some (.ok ⟨.ptr nid 0,[],[.box (aeY ti) false]⟩)
  | .box e x=>(ρ x).cells.bind fun cs=>some (.ok ⟨.ptr nid 0,[],[.box cs false]⟩)
  | .build t parts=>okV (ame G.T t (parts.toList.map fun p=>(p.1,ρ p.2)))
  | .buildSlice t len parts=>
    if led (parts.toList.map fun p=>ρ p.2) && !refSl G.T t then okE (Qw G.T nid t len (parts.toList.map (·.1)) (parts.toList.map fun p=>ρ p.2) look)
    else okE (aaC G.T nid t len (parts.toList.map fun p=>(p.1,ρ p.2)))
  | .load t a=>okV (aee G.T t (ρ a) look)
  | .store t a x=>if isE (ρ a) && led [ρ x] then okE (ae3 G.T t (ρ a) (ρ x) look) else okE (abw G.T t (ρ a) (ρ x) look)
  | .nilCheck x=>match akX (ρ x) with
    | some false=>okV (some (ρ x))
    | _=>none
  | .binOp op t x y _=>okV (aBin ((G.T t).map (·.desc)) (G.E t) op (ρ x) (ρ y))
  | .unOp op _ x=>okV (aUn op (ρ x))
  | .convert src dst x=>okV (agC G.T src dst (ρ x) look)
  | .makeFunc (.func f) first caps=>okV (some (.fn f (first.toList.map ρ) (caps.toList.map ρ)))
  | .makeSlice t l c=>okE (adK G.T nid t (ρ l) (ρ c))
  | .slice t x lo hi none=>match G.T t with
    | some { desc:=.slice e,.. }=>match G.T e with
      | some ei=>match ρ x with
        | .pv (.str _)=>none
        | v=>okV (abE ei.size v (lo.map ρ) (hi.map ρ))
      | none=>none
    | some { desc:=.str,.. }=>match ρ x with
      | .pv (.str s)=>okV (abE 0 (.pv (.str s)) (lo.map ρ) (hi.map ρ))
      | _=>none
    | some { desc:=.array n e,.. }=>if lo.isNone && hi.isNone then okE (acs G.T n e (ρ x) look) else none
    | _=>none
  | .slice t x lo hi (some mx)=>match G.T t with
    | some { desc:=.slice e,.. }=>match G.T e with
      | some _=>okV (aih (ρ x) (lo.map ρ) (hi.map ρ) (some (ρ mx)))
      | none=>none
    | _=>none
  | .fieldAddr s x f=>okV (akY G.T s (ρ x) f)
  | .field s x f=>okV (ahc G.T s (ρ x) f)
  | .indexAddr t x ix=>okV (qv G.T t (ρ x) (ρ ix))
  | .index t x ix=>match G.T t with
    | some { desc:=.str,.. }=>okV (amn (ρ x) (ρ ix))
    | some { desc:=.array n e,.. }=>okV (akN G.T n e (ρ x) (ρ ix))
    | _=>none
  | .extract x i=>match ρ x with
    | .tup vs=>okV (vs[i]?)
    | _=>none
  | .call { callee:=.builtin b,args,argTypes }=>aaT G b argTypes.toList (args.toList.map ρ) look nid
  | .call { callee:=.value f,args,.. }=>ajk G C (ρ f) (args.toList.map ρ) look nid
  | .panic x=>match ρ x with
    | .pv (.ifc t p)=>some (.pan ⟨.pv (.ifc t p),[],[]⟩)
    | _=>none
  | .makeInterface t x=>match G.T t,ρ x with
    | some { desc:=.int _,.. },.pv p=>okV (some (.pv (.ifc t p)))
    | some { desc:=.str,.. },.pv p=>okV (some (.pv (.ifc t p)))
    | _,_=>none
  | .makeMap t none=>okE (agF G.T nid t)
  | .lookup t x k ok=>okV (afa G.T t (ρ x) (ρ k) ok look)
  | .mapUpdate t x k v=>okE (abF G.T t (ρ x) (ρ k) (ρ v) look)
  | _=>none
def aaH (ops:Array Oper) (tmps:List AV) (o:Oper):Option Bool:=
  match o.guard with
  | none=>some true
  | some (j,want)=>
    match (ops[j]?).bind (·.dst) with
    | none=>some false
    | some d=>match tmps[d]? with
      | some (.pv (.bool b))=>some (b == want)
      | some .undef=>some false
      | _=>none
def foot (ρ:Operand→AV) (o:Oper) (look:Look):List Nat:=
  match o.op with
  | .load _ x | .convert _ _ x=>qB (ρ x)
  | .store _ p x=>if isE (ρ p) && led [ρ x] then qB (ρ p)++reach look Zl (AV.idsL [ρ x]) [] else qB (ρ p)
  | .lookup _ m _ _ | .mapUpdate _ m _ _=>qB (ρ m)
  | .slice _ x _ _ _=>match ρ x with
    | .ptr id _=>reach look Zl [id] []
    | _=>[]
  | .buildSlice _ _ parts=>if led (parts.toList.map fun p=>ρ p.2) then reach look Zl (AV.idsL (parts.toList.map fun p=>ρ p.2)) [] else []
  | .call { callee:=.builtin _,args,.. }=>args.toList.flatMap fun x=>qB (ρ x)
  | .call { callee:=.value f,args,.. }=>match callee (ρ f) (args.toList.map ρ) with
    | some p=>reach look Zl (AV.idsL p.2) []
    | none=>[]
  | _=>[]
structure Seen where
  i:Nat
  reads:List Nat
  writes:List Nat
def alN (acc:List Nat):List Nat→Nat
  | []=>0
  | e :: es=>alN acc es ||| (1 <<< e ||| (acc[e]?).getD 0)
def Zy (ops:Array Oper):Nat→List Nat→List Nat
  | 0,acc=>acc
  | n+1,acc=>
    let i:=ops.size - (n+1)
    let es:=((ops[i]?).map fun o=>((o.after.toList.filter (Region.binds .any)).map (·.on)).filter (· < i)).getD []
    Zy ops n (acc++[alN acc es])
def hasB (bs:List Nat) (i j:Nat):Bool:=Nat.testBit ((bs[i]?).getD 0) j
def disj (a b:List Nat):Bool:=a.all fun x=>!b.contains x
def QB (bs:List Nat):List Seen→Bool
  | []=>true
  | s :: r=>(r.all fun t=>hasB bs s.i t.i || (disj s.writes t.reads && disj s.writes t.writes && disj s.reads t.writes)) && QB bs r
def aby (ops:Array Oper):Bool:=
  let bs:=Zy ops ops.size []
  (List.range ops.size).all fun i=>(match ops[i]? with
      | some x=>x.after.all fun e=>!Region.binds .any e || decide (e.on < i)
      | none=>true) &&
    (List.range i).all fun j=>hasB bs i j || match ops[i]?,ops[j]? with
      | some x,some y=>x.apart ops y
      | _,_=>true
def abt (H:List Blk) (e:Eff):Bool:=e.upd.all fun p=>decide (p.1 < H.length)
def ab3 (H:List Blk) (l:List Nat):Bool:=l.all fun i=>decide (i < H.length)
def aav (G:Cfg) (C:ZH) (ops:Array Oper):Nat→List Oper→List Seen→St→Option (Ex × St × List Seen)
  | _,[],seen,σ=>some (.normal,σ,seen)
  | i,o :: rest,seen,σ=>
    match aaH ops σ.tmps o with
    | none=>none
    | some false=>aav G C ops (i+1) rest seen ⟨putA σ.tmps o.dst .undef,σ.heap⟩
    | some true=>
      match aOp G C (qc σ.tmps) o (zp σ.heap) σ.heap.length with
      | some (.ok e)=>if abt σ.heap e && ab3 σ.heap (foot (qc σ.tmps) o (zp σ.heap)) then aav G C ops (i+1) rest (⟨i,foot (qc σ.tmps) o (zp σ.heap),e.upd.map (·.1)++List.range' σ.heap.length e.new.length⟩ :: seen) ⟨putA σ.tmps o.dst e.val,qy σ.heap e⟩ else none
      | some (.pan e)=>if abt σ.heap e && ab3 σ.heap (foot (qc σ.tmps) o (zp σ.heap)) then some (.panic e.val,⟨σ.tmps,qy σ.heap e⟩,⟨i,[],[]⟩ :: seen) else none
      | none=>none
def amR (G:Cfg) (ops:Array Oper) (t:List AV) (j:Nat):Bool:=
  match ops[j]? with
  | some o=>(match o.op,o.guard with
    | .fieldAddr s x f,none=>(akY G.T s (qc t x) f).isSome
    | _,_=>false) && (o.looksAt ops).all fun d=>ops.all fun q=>q.dst != some d
  | none=>false
def alZ (G:Cfg) (ops:Array Oper) (r:List Seen) (t:List AV) (p:Nat):Bool:=
  let bs:=Zy ops ops.size []
  (List.range ops.size).all fun j=>j == p || (if j < p then hasB bs p j || (r.all fun s=>s.i != j || s.writes.isEmpty) else hasB bs j p || amR G ops t j)
def abB (G:Cfg) (C:ZH) (ops:Array Oper) (draw:Bool) (σ:St):Option (Ex × St):=
  match aav G C ops 0 ops.toList [] σ with
  | some (ex,σ',seen)=>
    if draw then
      match ex with
      | .normal=>if aby ops && QB (Zy ops ops.size []) seen then some (.normal,σ') else none
      | .panic v=>match seen with
        | s :: r=>if aby ops && QB (Zy ops ops.size []) r && alZ G ops r σ'.tmps s.i then some (.panic v,⟨σ'.tmps.map fun _=>.any,σ'.heap⟩) else none
        | []=>none
      | _=>none
    else some (ex,σ')
  | none=>none
def Qr:Code→Nat
  | .region id _ _=>id
  | .seq a _=>Qr a
  | .block _ c=>Qr c
  | .loop c=>Qr c
  | .scope c=>Qr c
  | _=>0
def qS (tmps:List AV):List Nat→List AV
  | []=>tmps
  | t :: r=>qS (tmps.set t .any) r
def tidy (n0:Nat) (kill:List Nat) (σ:St):Option St:=
  (adG n0 (qS σ.tmps kill) σ.heap).map fun p=>⟨p.1,p.2⟩
def iter (step:St→Option (Ex × St)) (fin:St→Option St):Nat→St→Option (Ex × St)
  | 0,_=>none
  | n+1,σ=>
    match step σ with
    | some (.normal,σ')=>(fin σ').bind (iter step fin n)
    | r=>r
def exec (G:Cfg) (C:ZH) (f:Nat) (n:Nat):Code→Option Nat→St→Option (Ex × St)
  | .seq a b,some l,σ=>
    if (findLabel a l).isSome then
      match exec G C f n a (some l) σ with
      | some (.normal,σ')=>exec G C f n b none σ'
      | r=>r
    else exec G C f n b (some l) σ
  | .label l',some l,σ=>if l' == l then some (.normal,σ) else none
  | .skip,none,σ=>some (.normal,σ)
  | .label _,none,σ=>some (.normal,σ)
  | .region id ops draw,none,σ=>(abB G C ops draw σ).map fun p=>(p.1,⟨qS p.2.tmps (G.K f (2 * id)),p.2.heap⟩)
  | .seq a b,none,σ=>
    match exec G C f n a none σ with
    | some (.normal,σ')=>exec G C f n b none σ'
    | r=>r
  | .cond c a b,none,σ=>
    match qc σ.tmps c with
    | .pv (.bool t)=>if t then exec G C f n a none σ else exec G C f n b none σ
    | _=>none
  | .block id c,none,σ=>
    match exec G C f n c none σ with
    | some (.exit id',σ')=>if id'=id then some (.normal,σ') else some (.exit id',σ')
    | r=>r
  | .loop c,none,σ=>iter (exec G C f n c none) (tidy σ.heap.length (G.K f (2 * Qr c+1))) n σ
  | .scope c,none,σ=>
    match exec G C f n c none σ with
    | some (.goto l,σ')=>
      if (findLabel c l).isSome then
        match exec G C f n c (some l) σ' with
        | some (.goto _,_)=>none
        | r=>r
      else none
    | r=>r
  | .exit id,none,σ=>some (.exit id,σ)
  | .goto l,none,σ=>some (.goto l,σ)
  | .ret,none,σ=>some (.ret,σ)
  | _,_,_=>none
def resA (G:Cfg) (σ:St):ResultVar→Option AV
  | .tmp t=>some ((σ.tmps[t]?).getD .undef)
  | .cell a t=>aee G.T t ((σ.tmps[a]?).getD .undef) (zp σ.heap)
def ab2 (G:Cfg) (σ:St):List ResultVar→Option (List AV)
  | []=>some []
  | r :: rs=>(resA G σ r).bind fun v=>(ab2 G σ rs).map fun vs=>v :: vs
def agr:List AV→AV
  | [v]=>v
  | vs=>.tup vs
def purC (lk:Look) (ks:List Nat):Nat→List AV→Option (List AV)
  | _,[]=>some []
  | j,v :: r=>(if ks.contains j then some v else (AV.pureOf lk 4 v).map .pv).bind fun v=>(purC lk ks (j+1) r).map fun r=>v :: r
def outC (ks:List Nat):Nat→List AV→List AV
  | _,[]=>[]
  | j,v :: r=>if ks.contains j then outC ks (j+1) r else v :: outC ks (j+1) r
def aaV (R:List Nat):Nat→List Blk→List Blk
  | _,[]=>[]
  | j,b :: H=>(if R.contains j then b.freeze else b) :: aaV R (j+1) H
def ao2 (ks:List Nat) (v:AV) (H:List Blk):Option (AV × List Blk):=
  match v with
  | .agg cs=>
    let R:=reach (zp H) Zl (AV.idsL (outC ks 0 cs)) []
    (purC (fun i=>if R.contains i then zp H i else none) ks 0 cs).map fun cs=>(.agg cs,aaV R 0 H)
  | _=>none
def akI (v:AV) (H:List Blk):Option (AV × List Blk):=
  let R:=reach (zp H) Zl (AV.ids v) []
  (v.puriRes (fun i=>if R.contains i then zp H i else none)).map fun v=>(v,aaV R 0 H)
def leave (m:Mode) (n0:Nat) (v:AV) (H:List Blk):Option (AV × List Blk):=
  match m with
  | .ownAt ks=>(ao2 ks v H).bind fun q=>(adG n0 [q.1] q.2).bind fun p=>match p.1 with
    | [v]=>some (v,p.2)
    | _=>none
  | .byrefP=>(akI v H).bind fun q=>(adG n0 [q.1] q.2).bind fun p=>match p.1 with
    | [v]=>some (v,p.2)
    | _=>none
  | .pure=>(v.puriRes (zp H)).bind fun v=>if n0=0 then some (v,[]) else none
  | _=>(adG n0 [v] H).bind fun p=>match p.1 with
    | [v]=>some (v,p.2)
    | _=>none
def ajd (te:Nat) (k:IntKind):Out→Option AV
  | .ret _=>some (.pv (.int k 0))
  | .pan (.pv (.ifc t (.int k' n)))=>if t=te∧k'=k then some (.pv (.int k n)) else none
  | _=>none
def akE (te:Nat) (k:IntKind) (P:Program) (C:ZH) (args:List AV) (H:List Blk):Option (Out × List Blk):=
  match args with
  | [fv]=>match callee fv [] with
    | some (g,as)=>match P.funcs[g]? with
      | some fn=>
        if fn.name == "runtime.NumGoroutine" then none else if fn.body.isNone then none else
        match C g as H with
        | some (o,H')=>(ajd te k o).map fun v=>(.ret v,H')
        | none=>none
      | none=>none
    | none=>none
  | _=>none
def call (G:Cfg):Nat→ZH
  | 0=>fun _ _ _=>none
  | n+1=>fun f args H=>
    match G.P.funcs[f]? with
    | none=>none
    | some fn=>
      match fn.body with
      | none=>none
      | some c=>
        match exec G (call G n) f n c none ⟨args++List.replicate (fn.ntmps - args.length) .any,H⟩ with
        | some (.normal,σ) | some (.ret,σ)=>
          (ab2 G σ fn.results.toList).bind fun vs=>(leave (G.M f) H.length (agr vs) σ.heap).map fun p=>(.ret p.1,p.2)
        | some (.panic v,σ)=>(leave (G.M f) H.length v σ.heap).map fun p=>(.pan p.1,p.2)
        | _=>match G.D f with
          | some d=>akE d.1 d.2 G.P (call G n) args H
          | none=>none
end Go.Ab
