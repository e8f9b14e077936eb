/- An abstract, deterministic reading of the kit's code: values as plain data (slices as lists), no tape, no addresses of slices. Definitions only. -/
import GoSem.Step
import Derived.Laws.World
import Derived.Laws.Build
import Derived.Deep.MidRow

set_option linter.unusedVariables false
set_option linter.unusedSimpArgs false

namespace Go.PM

/-- Who may write behind the end of a slice. -/
inductive Own
  | none
  | exact
  | tok (n : Nat)
  | flag

inductive AV
  | undef
  | bool (b : Bool)
  | int (k : IntKind) (n : Int)
  | str (s : List UInt8)
  | nilp
  | ptr (id el off : Nat)
  | lref (t off : Nat)
  | eref (cs : List AV) (off : Nat)
  | sl (sz : Nat) (es : List (List AV)) (own : Own)
  | hs (id off len : Nat)
  | mapv (id : Nat)
  | nilmap
  | fn (f : Fn) (first caps : List AV)
  | nilfn
  | iface (t : TypeId) (v : AV)
  | nili
  | agg (cs : List AV)
  | tup (vs : List AV)

instance : Inhabited AV := ⟨.undef⟩

inductive HObj
  | arr (sz : Nat) (els : List (List AV))
  | map (es : List (AV × AV))
  | dead

inductive Opd
  | t (n : Nat)
  | k (v : AV)

inductive Cv
  | int (k : IntKind)
  | same
  | b2s
  | s2b

/-- how two values of a type are held against each other: the leaves of a struct are 0 a number, 1 a text, 2 a bool -/
inductive EK
  | no
  | bool
  | ptr
  | map
  | iface
  | st (ks : List Nat)

inductive SOp
  | mv (x : Opd)
  | pick (c a b : Opd)
  | allocL (z : List AV)
  | boxL (sz : Nat) (x : Opd)
  | allocH (z : List AV)
  | boxH (sz : Nat) (x : Opd)
  | build (z : List AV) (ps : List (Nat × Nat × Opd))
  | bslice (sz : Nat) (z : List AV) (len : Nat) (ps : List (Nat × Opd))
  | load (ag : Bool) (n : Nat) (a : Opd) (take : Bool)
  | store (n : Nat) (a v : Opd)
  | nilchk (x : Opd)
  | bin (op : BinOp) (k : EK) (x y : Opd)
  | un (op : UnOp) (x : Opd)
  | conv (c : Cv) (x : Opd)
  | mkif (t : TypeId) (x : Opd)
  | mkfn (f : Fn) (first caps : List Opd)
  | slice (z : Nat) (x : Opd) (lo hi mx : Option Opd)
  | faddr (x : Opd) (off : Nat)
  | field (x : Opd) (off n : Nat) (ag : Bool)
  | iaddr (z : Nat) (x i : Opd)
  | index (x i : Opd)
  | tassert (x : Opd) (t : TypeId) (z : AV)
  | extract (x : Opd) (i : Nat)
  | call (f : Opd) (args : List Opd) (fl : List Nat)
  /-- a call that only reads -/
  | rcall (f : Opd) (args : List Opd)
  | dfr (f : Opd) (args : List Opd)
  | panic (x : Opd)
  | len (str : Bool) (x : Opd)
  | append (sz : Nat) (x y : Opd)
  | mnmx (isMax : Bool) (xs : List Opd)
  | recover

structure SOper where
  dst : Option Nat
  op : SOp
  guard : Option (Nat × Bool)
  /-- of a read in a region that draws: it may run behind `lo` effects at the earliest, behind `hi` at the latest -/
  lo : Nat
  hi : Nat

inductive SC
  | skip
  | region (ops : List SOper) (draw : Bool)
  | seq (a b : SC)
  | cond (c : Opd) (x y : SC)
  | block (id : Nat) (b : SC)
  | loop (b : SC)
  | exit (id : Nat)
  | scope (b : SC)
  | inscope (b cur : SC)
  | label (l : Nat)
  | goto (l : Nat)
  | ret

inductive SRes
  | tmp (t : Nat)
  | cell (t : Nat) (ag : Bool) (n : Nat)

structure SF where
  nt : Nat
  body : SC
  res : List SRes
  /-- slots that hold something at a loop's head or at a label -/
  keep : List Nat
  /-- parameters whose spare room is handed over -/
  pown : List Nat
  /-- results whose spare room is handed back -/
  rown : List Nat

/-! ## values -/

def AV.nrm0 : AV → AV
  | .sl sz es _ => .sl sz es .none
  | .lref _ _ => .undef
  | .eref _ _ => .undef
  | .agg _ => .undef
  | .tup _ => .undef
  | v => v
def AV.nrm1 : AV → AV
  | .agg cs => .agg (cs.map AV.nrm0)
  | v => v.nrm0
/-- without rooms and without places of a frame -/
def AV.nrm : AV → AV
  | .tup vs => .tup (vs.map AV.nrm1)
  | v => v.nrm1
def nrms (l : List AV) : List AV := l.map AV.nrm

/-- as a part of a value in the same frame: rooms are kept, local places are not -/
def AV.part : AV → AV
  | .lref _ _ => .undef
  | .eref _ _ => .undef
  | v => v

def AV.cells : AV → List AV
  | .agg cs => cs
  | .undef => []
  | .tup _ => []
  | v => [v]

/-- surely one cell -/
def AV.one : AV → Bool
  | .undef => false
  | .agg _ => false
  | .tup _ => false
  | _ => true

def AV.isSl : AV → Bool
  | .sl .. => true
  | _ => false

/-- what a place holds: one cell, or several -/
def getc (ag : Bool) (n : Nat) (cs : List AV) (off : Nat) : Option AV :=
  match ag with
  | true => if off + n ≤ cs.length then some (.agg ((cs.drop off).take n)) else Option.none
  | false => cs[off]?

def setc (cs : List AV) (off : Nat) (vs : List AV) : Option (List AV) :=
  if off + vs.length ≤ cs.length then some (cs.take off ++ vs ++ cs.drop (off + vs.length)) else Option.none

def byteOf : AV → Option UInt8
  | .int .u8 n => some (UInt8.ofNat n.toNat)
  | _ => Option.none

def bytesOf : List (List AV) → Option (List UInt8)
  | [] => some []
  | [c] :: r => match byteOf c, bytesOf r with
    | some b, some l => some (b :: l)
    | _, _ => Option.none
  | _ :: _ => Option.none

/-! ## a frame -/

structure St where
  tmps : List AV
  loc : List (Option (List AV))
  live : List Nat
  tk : Nat
  defers : List (AV × List AV)
  /-- where this is a deferred call: the panic that the caller's frame is in -/
  pan : Option (Option AV)
  recd : Bool
  heap : List HObj

def ev (s : St) : Opd → AV
  | .t n => s.tmps.getD n .undef
  | .k v => v

def St.put (s : St) (dst : Option Nat) (v : AV) : St :=
  match dst with
  | some d => { s with tmps := s.tmps.set d v }
  | Option.none => s

/-- the room of a value that leaves the frame: handed on, if it is there -/
def roomy (live : List Nat) : Own → Bool
  | .exact => true
  | .tok n => live.contains n
  | _ => false

def unlive (live : List Nat) : Own → List Nat
  | .tok n => live.filter fun m => m != n
  | _ => live

/-- into a cell of the heap -/
def AV.toHeap (live : List Nat) : AV → AV × List Nat
  | .sl sz es o => if roomy live o then (.sl sz es .flag, unlive live o) else (.sl sz es .none, live)
  | v => (v.nrm0, live)

def toHeaps : List Nat → List AV → List AV × List Nat
  | live, [] => ([], live)
  | live, v :: r => ((v.toHeap live).1 :: (toHeaps (v.toHeap live).2 r).1, (toHeaps (v.toHeap live).2 r).2)

def clr (keep : List Nat) {α : Type} (z : α) : Nat → List α → List α
  | _, [] => []
  | i, x :: r => (if keep.contains i then x else z) :: clr keep z (i + 1) r

/-- at a loop's head: what does not live on is forgotten -/
def St.clear (keep : List Nat) (s : St) : St :=
  { s with tmps := clr keep .undef 0 s.tmps, loc := clr keep Option.none 0 s.loc }

/-- does a slot hold a place of a slot that is forgotten? -/
def strays (keep : List Nat) (loc : List (Option (List AV))) : List AV → Bool
  | [] => false
  | .lref t _ :: r => !keep.contains t || strays keep loc r
  | _ :: r => strays keep loc r

/-! ## reading and writing places -/

def loadAt (ag : Bool) (n : Nat) (s : St) : AV → Option AV
  | .lref t off => match s.loc[t]? with
    | some (some cs) => getc ag n cs off
    | _ => Option.none
  | .eref cs off => (getc ag n cs off).map AV.nrm1
  | .ptr id el off => match s.heap[id]? with
    | some (.arr _ els) => match els[el]? with
      | some cs => (getc ag n cs off).map AV.nrm1
      | Option.none => Option.none
    | _ => Option.none
  | _ => Option.none

/-- a slice out of a cell of the heap, with its room -/
def takeAt (s : St) : AV → Option (AV × St)
  | .ptr id el off => match s.heap[id]? with
    | some (.arr sz els) => match els[el]? with
      | some cs => match cs[off]? with
        | some (.sl z es .flag) =>
          some (.sl z es (.tok s.tk), { s with live := s.tk :: s.live, tk := s.tk + 1, heap := s.heap.set id (.arr sz (els.set el (cs.set off (.sl z es .none)))) })
        | _ => Option.none
      | Option.none => Option.none
    | _ => Option.none
  | _ => Option.none

def storeAt (s : St) (a : AV) (vs : List AV) : Option St :=
  match a with
  | .lref t off => match s.loc[t]? with
    | some (some cs) => (setc cs off (vs.map AV.part)).map fun cs' => { s with loc := s.loc.set t (some cs') }
    | _ => Option.none
  | .ptr id el off => match s.heap[id]? with
    | some (.arr sz els) => match els[el]? with
      | some cs => (setc cs off (toHeaps s.live vs).1).map fun cs' =>
          { s with live := (toHeaps s.live vs).2, heap := s.heap.set id (.arr sz (els.set el cs')) }
      | Option.none => Option.none
    | _ => Option.none
  | _ => Option.none

/-! ## pure operations -/

def eqLeaf : Nat → AV → AV → Option Bool
  | 0, .int k a, .int k' b => if k = k' then some (a == b) else Option.none
  | 1, .str a, .str b => some (decide (a = b))
  | 2, .bool a, .bool b => some (a == b)
  | _, _, _ => Option.none

def eqLs : List Nat → List AV → List AV → Option Bool
  | [], [], [] => some true
  | k :: ks, a :: r, b :: q => match eqLeaf k a b, eqLs ks r q with
    | some x, some y => some (x && y)
    | _, _ => Option.none
  | _, _, _ => Option.none

def eqK : EK → AV → AV → Option Bool
  | .bool, .bool a, .bool b => some (a == b)
  | .ptr, .nilp, .nilp => some true
  | .ptr, .nilp, .ptr .. => some false
  | .ptr, .ptr .., .nilp => some false
  | .map, .nilmap, .nilmap => some true
  | .map, .nilmap, .mapv _ => some false
  | .map, .mapv _, .nilmap => some false
  | .iface, .nili, .nili => some true
  | .iface, .nili, .iface .. => some false
  | .iface, .iface .., .nili => some false
  | .st ks, .agg a, .agg b => eqLs ks a b
  | _, _, _ => Option.none

def ltBytes : List UInt8 → List UInt8 → Bool
  | _, [] => false
  | [], _ :: _ => true
  | a :: x, b :: y => a < b || (a == b && ltBytes x y)

def binA (op : BinOp) (e : EK) (x y : AV) : Option AV :=
  match x, y with
  | .int k a, .int k' b =>
    if k = k' then
      match op with
      | .add => some (.int k (k.wrap (a + b)))
      | .sub => some (.int k (k.wrap (a - b)))
      | .mul => some (.int k (k.wrap (a * b)))
      | .quo => if b = 0 then Option.none else some (.int k (k.wrap (a.tdiv b)))
      | .rem => if b = 0 then Option.none else some (.int k (a.tmod b))
      | .eql => some (.bool (a == b))
      | .neq => some (.bool (a != b))
      | .lss => some (.bool (decide (a < b)))
      | .leq => some (.bool (decide (a ≤ b)))
      | .gtr => some (.bool (decide (a > b)))
      | .geq => some (.bool (decide (a ≥ b)))
      | _ => Option.none
    else Option.none
  | .str a, .str b =>
    match op with
    | .add => if a.length + b.length ≤ 2 ^ 62 then some (.str (a ++ b)) else Option.none
    | .eql => some (.bool (decide (a = b)))
    | .neq => some (.bool (!decide (a = b)))
    | .lss => some (.bool (ltBytes a b))
    | .leq => some (.bool (ltBytes a b || decide (a = b)))
    | .gtr => some (.bool (!(ltBytes a b || decide (a = b))))
    | .geq => some (.bool (!ltBytes a b))
    | _ => Option.none
  | x, y =>
    match op with
    | .eql => (eqK e x y).map AV.bool
    | .neq => (eqK e x y).map fun b => AV.bool (!b)
    | _ => Option.none

def unA (op : UnOp) (x : AV) : Option AV :=
  match op, x with
  | .not, .bool b => some (.bool (!b))
  | .neg, .int k n => some (.int k (k.wrap (0 - n)))
  | _, _ => Option.none

def convA (c : Cv) (x : AV) : Option AV :=
  match c, x with
  | .int k, .int _ n => some (.int k (k.wrap n))
  | .same, .str s => some (.str s)
  | .b2s, .sl _ es _ => (bytesOf es).map AV.str
  | _, _ => Option.none

def natI (v : AV) : Option Nat :=
  match v with
  | .int _ n => if 0 ≤ n then some n.toNat else Option.none
  | _ => Option.none

def bnd (x : Option AV) (n : Nat) : Option Nat :=
  match x with
  | some h => natI h
  | Option.none => some n

/-- a text is cut where `z` is 0, a slice elsewhere -/
def slKind (z : Nat) : AV → Bool
  | .str _ => z == 0
  | .sl .. => z != 0
  | _ => false

def sliceA (z : Nat) (x : AV) (lo hi mx : Option AV) : Option AV :=
  match x with
  | .str s =>
    match mx, bnd hi s.length, bnd lo 0 with
    | Option.none, some h, some l => if l ≤ h ∧ h ≤ s.length then some (.str ((s.take h).drop l)) else Option.none
    | _, _, _ => Option.none
  | .sl sz es own =>
    match bnd hi es.length, bnd lo 0 with
    | some h, some l =>
      if (l ≤ h ∧ h ≤ es.length) ∧ (sz = z ∨ es = []) then
        match mx, hi with
        | Option.none, _ => some (.sl sz ((es.take h).drop l) (if h = es.length then own else .none))
        | some m, some _ => match natI m with
          | some m => if m = h then some (.sl sz ((es.take h).drop l) .exact) else Option.none
          | Option.none => Option.none
        | some _, Option.none => Option.none
      else Option.none
    | _, _ => Option.none
  | _ => Option.none

def fillA : List AV → List (Nat × Nat × AV) → Option (List AV)
  | cs, [] => some cs
  | cs, (off, n, v) :: r =>
    if v.cells.length = n then
      match setc cs off (v.cells.map AV.part) with
      | some cs' => fillA cs' r
      | Option.none => Option.none
    else Option.none

def fillE (sz : Nat) : List (List AV) → List (Nat × AV) → Option (List (List AV))
  | es, [] => some es
  | es, (i, v) :: r =>
    if v.cells.length = sz ∧ i < es.length then fillE sz (es.set i (v.cells.map AV.nrm0)) r else Option.none

def mnmxA (isMax : Bool) : List AV → Option AV
  | [.int k a, .int k' b] => if k = k' then some (.int k (if isMax then (if a < b then b else a) else (if b < a then b else a))) else Option.none
  | _ => Option.none

/-! ## equality of values, as a test -/

def eqOwn : Own → Own → Bool
  | .none, .none => true
  | .exact, .exact => true
  | .tok a, .tok b => a == b
  | .flag, .flag => true
  | _, _ => false

mutual
def agree : AV → AV → Bool
  | .undef, .undef => true
  | .bool a, .bool b => a == b
  | .int k a, .int k' b => decide (k = k') && a == b
  | .str a, .str b => decide (a = b)
  | .nilp, .nilp => true
  | .ptr a b c, .ptr a' b' c' => a == a' && (b == b' && c == c')
  | .lref a b, .lref a' b' => a == a' && b == b'
  | .eref a b, .eref a' b' => agrees a a' && b == b'
  | .sl z es o, .sl z' es' o' => z == z' && (agreess es es' && eqOwn o o')
  | .hs a b c, .hs a' b' c' => a == a' && (b == b' && c == c')
  | .mapv a, .mapv b => a == b
  | .nilmap, .nilmap => true
  | .fn f a b, .fn f' a' b' => decide (f = f') && (agrees a a' && agrees b b')
  | .nilfn, .nilfn => true
  | .iface t v, .iface t' v' => t == t' && agree v v'
  | .nili, .nili => true
  | .agg a, .agg b => agrees a b
  | .tup a, .tup b => agrees a b
  | _, _ => false
def agrees : List AV → List AV → Bool
  | [], [] => true
  | a :: r, b :: q => agree a b && agrees r q
  | _, _ => false
def agreess : List (List AV) → List (List AV) → Bool
  | [], [] => true
  | a :: r, b :: q => agrees a b && agreess r q
  | _, _ => false
end

def agreeP : List (AV × AV) → List (AV × AV) → Bool
  | [], [] => true
  | a :: r, b :: q => agree a.1 b.1 && (agree a.2 b.2 && agreeP r q)
  | _, _ => false

def agreeO : HObj → HObj → Bool
  | .arr z a, .arr z' b => z == z' && agreess a b
  | .map a, .map b => agreeP a b
  | .dead, .dead => true
  | _, _ => false

def agreeH : List HObj → List HObj → Bool
  | [], [] => true
  | a :: r, b :: q => agreeO a b && agreeH r q
  | _, _ => false

/-! ## operations -/

inductive Out
  | ret (v : AV)
  | pan (v : AV)

inductive ORes
  | val (v : AV) (s : St)
  | skp (s : St)
  | pan (v : AV) (s : St)

/-- arguments as the callee takes them: rooms by `fl` -/
def passA (fl : List Nat) : Nat → St → List AV → Option (List AV × St)
  | _, s, [] => some ([], s)
  | i, s, v :: r =>
    if fl.contains i then
      match v with
      | .sl sz es o =>
        if roomy s.live o then
          (passA fl (i + 1) { s with live := unlive s.live o } r).map fun p => (.sl sz es .flag :: p.1, p.2)
        else Option.none
      | _ => Option.none
    else (passA fl (i + 1) s r).map fun p => (v.nrm :: p.1, p.2)

/-- what a call handed back, in the caller's frame -/
def adopt1 (s : St) : AV → AV × St
  | .sl sz es .flag => (.sl sz es (.tok s.tk), { s with live := s.tk :: s.live, tk := s.tk + 1 })
  | v => (v.nrm1, s)

def adopts : St → List AV → List AV × St
  | s, [] => ([], s)
  | s, v :: r => ((adopt1 s v).1 :: (adopts (adopt1 s v).2 r).1, (adopts (adopt1 s v).2 r).2)

def adopt (s : St) : AV → AV × St
  | .tup vs => (.tup (adopts s vs).1, (adopts s vs).2)
  | v => adopt1 s v

def maxLen : Nat := 2 ^ 34

/-- what a call gives that leaves the heap as it is -/
def readCall (callF : FuncId → List AV → List HObj → Option (Out × List HObj)) (g : FuncId) (args : List AV) (heap : List HObj) : Option AV :=
  match callF g args heap with
  | some (.ret r, h) => if agreeH h heap then some r.nrm else Option.none
  | _ => Option.none

def stepOp (callF : FuncId → List AV → List HObj → Option (Out × List HObj)) (dst : Option Nat) (o : SOp) (s : St) : Option ORes :=
  let v (x : Option AV) : Option ORes := x.map fun a => ORes.val a s
  match o with
  | .mv x => some (.val (ev s x) s)
  | .pick c a b => match ev s c with
    | .bool t => some (.val (if t then ev s a else ev s b) s)
    | _ => Option.none
  | .allocL z => match dst with
    | some d => match s.loc[d]? with
      | some Option.none => some (.val (.lref d 0) { s with loc := s.loc.set d (some z) })
      | _ => Option.none
    | Option.none => Option.none
  | .boxL sz x => match dst with
    | some d => match s.loc[d]? with
      | some Option.none => if (ev s x).cells.length = sz then some (.val (.lref d 0) { s with loc := s.loc.set d (some ((ev s x).cells.map AV.part)) }) else Option.none
      | _ => Option.none
    | Option.none => Option.none
  | .allocH z => some (.val (.ptr s.heap.length 0 0) { s with heap := s.heap ++ [.arr z.length [(toHeaps s.live z).1]] })
  | .boxH sz x =>
    if (ev s x).cells.length = sz then
      some (.val (.ptr s.heap.length 0 0) { s with live := (toHeaps s.live (ev s x).cells).2, heap := s.heap ++ [.arr sz [(toHeaps s.live (ev s x).cells).1]] })
    else Option.none
  | .build z ps => v ((fillA z (ps.map fun p => (p.1, p.2.1, ev s p.2.2))).map AV.agg)
  | .bslice sz z len ps => v ((fillE sz (List.replicate len z) (ps.map fun p => (p.1, ev s p.2))).map fun es => .sl sz es .exact)
  | .load ag n a take =>
    match take with
    | true => (takeAt s (ev s a)).map fun p => .val p.1 p.2
    | false => v (loadAt ag n s (ev s a))
  | .store n a x => if (ev s x).cells.length = n ∧ (ev s x).cells.all AV.one = true then (storeAt s (ev s a) (ev s x).cells).map ORes.skp else Option.none
  | .nilchk x => match ev s x with
    | .ptr id el off => some (.val (.ptr id el off) s)
    | .lref t off => some (.val (.lref t off) s)
    | .fn f a b => match f with
      | .func _ => some (.val (.fn f a b) s)
      | _ => Option.none
    | _ => Option.none
  | .bin op e x y => v (binA op e (ev s x) (ev s y))
  | .un op x => v (unA op (ev s x))
  | .conv c x => v (convA c (ev s x))
  | .mkif t x => some (.val (.iface t (ev s x).nrm) s)
  | .mkfn f first caps => some (.val (.fn f (nrms (first.map (ev s))) (nrms (caps.map (ev s)))) s)
  | .slice z x lo hi mx => v (if slKind z (ev s x) then sliceA z (ev s x) (lo.map (ev s)) (hi.map (ev s)) (mx.map (ev s)) else Option.none)
  | .faddr x off => match ev s x with
    | .lref t o => some (.val (.lref t (o + off)) s)
    | .eref cs o => some (.val (.eref cs (o + off)) s)
    | .ptr id el o => some (.val (.ptr id el (o + off)) s)
    | _ => Option.none
  | .field x off n ag => match ev s x with
    | .agg cs => v (getc ag n cs off)
    | _ => Option.none
  | .iaddr z x i => match ev s x, natI (ev s i) with
    | .sl sz es _, some k => match es[k]? with
      | some cs => if sz = z then some (.val (.eref cs 0) s) else Option.none
      | Option.none => Option.none
    | _, _ => Option.none
  | .index x i => match ev s x, natI (ev s i) with
    | .str l, some k => match l[k]? with
      | some b => some (.val (.int .u8 b.toNat) s)
      | Option.none => Option.none
    | _, _ => Option.none
  | .tassert x t z => match ev s x with
    | .nili => some (.val (.tup [z, .bool false]) s)
    | .iface u a => if u = t then some (.val (.tup [a.nrm1, .bool true]) s) else some (.val (.tup [z, .bool false]) s)
    | _ => Option.none
  | .extract x i => match ev s x with
    | .tup vs => v (vs[i]?)
    | _ => Option.none
  | .call f args fl => match ev s f with
    | .fn (.func g) first caps =>
      match passA fl 0 s (args.map (ev s)) with
      | some (as_, s1) => match callF g (nrms first ++ as_ ++ nrms caps) s1.heap with
        | some (.ret r, h) => some (.val (adopt { s1 with heap := h } r).1 (adopt { s1 with heap := h } r).2)
        | some (.pan p, h) => some (.pan p { s1 with heap := h })
        | Option.none => Option.none
      | Option.none => Option.none
    | _ => Option.none
  | .rcall f args => match ev s f with
    | .fn (.func g) first caps => v (readCall callF g (nrms (first ++ args.map (ev s) ++ caps)) s.heap)
    | _ => Option.none
  | .dfr f args => match ev s f with
    | .fn h first caps => some (.skp { s with defers := (.fn h first caps, nrms (args.map (ev s))) :: s.defers })
    | _ => Option.none
  | .panic x => match ev s x with
    | .iface t a => some (.pan (.iface t a) s)
    | _ => Option.none
  | .len k x => match k, ev s x with
    | true, .str l => some (.val (.int .i64 l.length) s)
    | false, .sl _ es _ => some (.val (.int .i64 es.length) s)
    | false, .hs _ _ n => some (.val (.int .i64 n) s)
    | _, _ => Option.none
  | .append sz x y => match ev s x with
    | .sl z es o =>
      if z = sz ∧ roomy s.live o = true then
        match ev s y with
        | .sl z' es' _ =>
          if ((z' = sz ∨ es' = []) ∧ (es ++ es').length ≤ maxLen) ∧ es'.all (fun c => c.all AV.one) = true then
            some (.val (.sl sz (es ++ es') (.tok s.tk)) { s with live := s.tk :: unlive s.live o, tk := s.tk + 1 })
          else Option.none
        | .str l =>
          if sz = 1 ∧ (es.length + l.length) ≤ maxLen then
            some (.val (.sl sz (es ++ l.map fun b => [AV.int .u8 b.toNat]) (.tok s.tk)) { s with live := s.tk :: unlive s.live o, tk := s.tk + 1 })
          else Option.none
        | _ => Option.none
      else Option.none
    | _ => Option.none
  | .mnmx m xs => v (mnmxA m (xs.map (ev s)))
  | .recover => match s.pan with
    | some (some p) => some (.val p.nrm { s with pan := some Option.none, recd := true })
    | some Option.none => some (.val .nili s)
    | Option.none => Option.none

/-! ## regions -/

inductive Ex
  | norm
  | ret
  | brk (id : Nat)
  | goto (l : Nat)
  | pan (v : AV)

def wantedS (s : St) : Option (Nat × Bool) → Option Bool
  | Option.none => some true
  | some (t, want) => match s.tmps.getD t .undef with
    | .bool b => some (b == want)
    | .tup [] => some false
    | _ => Option.none

def runOps (callF : FuncId → List AV → List HObj → Option (Out × List HObj)) : List SOper → St → Option (Ex × St)
  | [], s => some (.norm, s)
  | o :: r, s =>
    match wantedS s o.guard with
    | some true => match stepOp callF o.dst o.op s with
      | some (.val v s') => runOps callF r (s'.put o.dst v)
      | some (.skp s') => runOps callF r (s'.put o.dst (.tup []))
      | some (.pan v s') => some (Ex.pan v, s')
      | Option.none => Option.none
    | some false => runOps callF r (s.put o.dst (.tup []))
    | Option.none => Option.none

end Go.PM

/- Running the abstract reading: with a count of rounds, and without (where some count serves). -/
namespace Go.PM

theorem eqOwn_eq {a b : Own} (h : eqOwn a b = true) : a = b := by
  cases a <;> cases b <;> simp_all [eqOwn]
theorem eqOwn_refl (a : Own) : eqOwn a a = true := by cases a <;> simp [eqOwn]

mutual
theorem agree_eq : ∀ {a b : AV}, agree a b = true → a = b
  | .undef, b, h => by cases b <;> simp_all [agree]
  | .bool _, b, h => by cases b <;> simp_all [agree]
  | .int _ _, b, h => by cases b <;> simp_all [agree]
  | .str _, b, h => by cases b <;> simp_all [agree]
  | .nilp, b, h => by cases b <;> simp_all [agree]
  | .ptr _ _ _, b, h => by cases b <;> simp_all [agree]
  | .lref _ _, b, h => by cases b <;> simp_all [agree]
  | .eref x _, b, h => by
    cases b <;> simp only [agree, Bool.and_eq_true, Bool.false_eq_true] at h
    rw [agrees_eq h.1]; simp_all
  | .sl _ x _, b, h => by
    cases b <;> simp only [agree, Bool.and_eq_true, Bool.false_eq_true] at h
    rw [agreess_eq h.2.1, eqOwn_eq h.2.2]; simp_all
  | .hs _ _ _, b, h => by cases b <;> simp_all [agree]
  | .mapv _, b, h => by cases b <;> simp_all [agree]
  | .nilmap, b, h => by cases b <;> simp_all [agree]
  | .fn _ x y, b, h => by
    cases b <;> simp only [agree, Bool.and_eq_true, Bool.false_eq_true, decide_eq_true_eq] at h
    rw [agrees_eq h.2.1, agrees_eq h.2.2]; simp_all
  | .nilfn, b, h => by cases b <;> simp_all [agree]
  | .iface _ x, b, h => by
    cases b <;> simp only [agree, Bool.and_eq_true, Bool.false_eq_true] at h
    rw [agree_eq h.2]; simp_all
  | .nili, b, h => by cases b <;> simp_all [agree]
  | .agg x, b, h => by
    cases b <;> simp only [agree, Bool.false_eq_true] at h
    rw [agrees_eq h]
  | .tup x, b, h => by
    cases b <;> simp only [agree, Bool.false_eq_true] at h
    rw [agrees_eq h]
theorem agrees_eq : ∀ {a b : List AV}, agrees a b = true → a = b
  | [], b, h => by cases b <;> simp_all [agrees]
  | a :: r, b, h => by
    cases b <;> simp only [agrees, Bool.and_eq_true, Bool.false_eq_true] at h
    rw [agree_eq h.1, agrees_eq h.2]
theorem agreess_eq : ∀ {a b : List (List AV)}, agreess a b = true → a = b
  | [], b, h => by cases b <;> simp_all [agreess]
  | a :: r, b, h => by
    cases b <;> simp only [agreess, Bool.and_eq_true, Bool.false_eq_true] at h
    rw [agrees_eq h.1, agreess_eq h.2]
end

mutual
theorem agree_refl : ∀ (a : AV), agree a a = true
  | .undef => by simp [agree]
  | .bool _ => by simp [agree]
  | .int _ _ => by simp [agree]
  | .str _ => by simp [agree]
  | .nilp => by simp [agree]
  | .ptr _ _ _ => by simp [agree]
  | .lref _ _ => by simp [agree]
  | .eref x _ => by simp [agree, agrees_refl x]
  | .sl _ x _ => by simp [agree, agreess_refl x, eqOwn_refl]
  | .hs _ _ _ => by simp [agree]
  | .mapv _ => by simp [agree]
  | .nilmap => by simp [agree]
  | .fn _ x y => by simp [agree, agrees_refl x, agrees_refl y]
  | .nilfn => by simp [agree]
  | .iface _ x => by simp [agree, agree_refl x]
  | .nili => by simp [agree]
  | .agg x => by simp [agree, agrees_refl x]
  | .tup x => by simp [agree, agrees_refl x]
theorem agrees_refl : ∀ (a : List AV), agrees a a = true
  | [] => by simp [agrees]
  | a :: r => by simp [agrees, agree_refl a, agrees_refl r]
theorem agreess_refl : ∀ (a : List (List AV)), agreess a a = true
  | [] => by simp [agreess]
  | a :: r => by simp [agreess, agrees_refl a, agreess_refl r]
end

theorem agreeP_eq : ∀ {a b : List (AV × AV)}, agreeP a b = true → a = b
  | [], b, h => by cases b <;> simp_all [agreeP]
  | (x, y) :: r, b, h => by
    cases b <;> simp only [agreeP, Bool.and_eq_true, Bool.false_eq_true] at h
    rename_i p q
    obtain ⟨p1, p2⟩ := p
    rw [agreeP_eq h.2.2]; have e1 := agree_eq h.1; have e2 := agree_eq h.2.1; simp at e1 e2; rw [e1, e2]
theorem agreeP_refl : ∀ (a : List (AV × AV)), agreeP a a = true
  | [] => by simp [agreeP]
  | a :: r => by simp [agreeP, agree_refl, agreeP_refl r]
theorem agreeO_eq {a b : HObj} (h : agreeO a b = true) : a = b := by
  cases a <;> cases b <;> simp only [agreeO, Bool.and_eq_true, Bool.false_eq_true, beq_iff_eq] at h
  · rw [h.1, agreess_eq h.2]
  · rw [agreeP_eq h]
  · rfl
theorem agreeO_refl (a : HObj) : agreeO a a = true := by cases a <;> simp [agreeO, agreess_refl, agreeP_refl]
theorem agreeH_eq : ∀ {a b : List HObj}, agreeH a b = true → a = b
  | [], b, h => by cases b <;> simp_all [agreeH]
  | a :: r, b, h => by
    cases b <;> simp only [agreeH, Bool.and_eq_true, Bool.false_eq_true] at h
    rw [agreeO_eq h.1, agreeH_eq h.2]
theorem agreeH_refl : ∀ (a : List HObj), agreeH a a = true
  | [] => by simp [agreeH]
  | a :: r => by simp [agreeH, agreeO_refl, agreeH_refl r]

/-! ## regions that draw their order -/

/-- an operation that others must not pass -/
def effect : SOp → Bool
  | .store .. | .call .. | .append .. | .allocH .. | .boxH .. | .boxL .. | .dfr .. | .panic .. | .recover => true
  | .load _ _ _ t => t
  | _ => false

def isAllocL : SOp → Bool
  | .allocL _ => true
  | _ => false

/-- what is read -/
inductive Rq
  | ld (a : AV) (ag : Bool) (n : Nat)
  | rc (g : FuncId) (args : List AV)

def readOf (s : St) : SOp → Option Rq
  | .load ag n a false => some (.ld (ev s a) ag n)
  | .rcall f args => match ev s f with
    | .fn (.func g) first caps => some (.rc g (nrms (first ++ args.map (ev s) ++ caps)))
    | _ => none
  | _ => none

abbrev CallF := FuncId → List AV → List HObj → Option (Out × List HObj)

def readAt (callF : CallF) (s : St) : Rq → Option AV
  | .ld a ag n => loadAt ag n s a
  | .rc g args => readCall callF g args s.heap

/-- a read, what it gave, and up to which effect it may stand -/
structure Rd where
  q : Rq
  v : AV
  hi : Nat

def rdOk (callF : CallF) (s : St) (r : Rd) : Bool :=
  match readAt callF s r.q with
  | some v => agree v r.v
  | none => false

/-- `hist`: the states behind the effects so far, the latest first -/
def pastOk (callF : CallF) (lo : Nat) (r : Rd) : List St → Bool
  | [] => true
  | s :: q => (if lo ≤ q.length then rdOk callF s r else true) && pastOk callF lo r q

def futOk (callF : CallF) (k : Nat) (s : St) : List Rd → Bool
  | [] => true
  | r :: q => (if k ≤ r.hi then rdOk callF s r else true) && futOk callF k s q

/-- the local variables of a region that draws come first -/
def preAlloc (callF : CallF) : List SOper → St → Option St
  | [], s => some s
  | o :: r, s => match isAllocL o.op, o.guard with
    | true, none => match stepOp callF o.dst o.op s with
      | some (.val v s') => preAlloc callF r (s'.put o.dst v)
      | _ => none
    | true, some _ => none
    | false, _ => preAlloc callF r s

def runD (callF : CallF) : List SOper → St → List St → List Rd → Option (Ex × St)
  | [], s, _, _ => some (.norm, s)
  | o :: r, s, hist, pend =>
    if isAllocL o.op then runD callF r s hist pend else
    match wantedS s o.guard with
    | some true => match stepOp callF o.dst o.op s with
      | some (.val v s') =>
        if effect o.op then
          if futOk callF hist.length s' pend then runD callF r (s'.put o.dst v) (s' :: hist) pend else none
        else match readOf s o.op with
          | some q =>
            if pastOk callF o.lo ⟨q, v, o.hi⟩ hist.tail then
              runD callF r (s'.put o.dst v) hist (if hist.length ≤ o.hi then ⟨q, v, o.hi⟩ :: pend else pend)
            else none
          | none => runD callF r (s'.put o.dst v) hist pend
      | some (.skp s') =>
        if effect o.op then
          if futOk callF hist.length s' pend then runD callF r (s'.put o.dst (.tup [])) (s' :: hist) pend else none
        else none
      | some (.pan v s') => if o.lo = 1 then some (Ex.pan v, { s' with tmps := s'.tmps.map fun _ => .undef, loc := s'.loc.map fun _ => none }) else none
      | none => none
    | some false =>
      if effect o.op then
        if futOk callF hist.length s pend then runD callF r (s.put o.dst (.tup [])) (s :: hist) pend else none
      else runD callF r (s.put o.dst (.tup [])) hist pend
    | none => none

/-! ## code -/

def findLabel : SC → Nat → Option SC
  | .seq a b, l => match findLabel a l with
    | some r => some (.seq r b)
    | none => findLabel b l
  | .label l', l => if l' = l then some .skip else none
  | _, _ => none

def runReg (callF : FuncId → List AV → List HObj → Option (Out × List HObj)) (ops : List SOper) (draw : Bool) (s : St) : Option (Ex × St) :=
  match draw with
  | false => runOps callF ops s
  | true => match preAlloc callF ops s with
    | some s' => runD callF ops s' [s'] []
    | none => none

def getRes (s : St) : SRes → Option AV
  | .tmp t => s.tmps[t]?
  | .cell t ag n => match s.tmps[t]? with
    | some a => loadAt ag n s a
    | none => none

def getRess (s : St) : List SRes → Option (List AV)
  | [] => some []
  | r :: q => match getRes s r, getRess s q with
    | some a, some l => some (a :: l)
    | _, _ => none

/-- a result as it leaves: with its room, where that is promised -/
def giveA (live : List Nat) (room : Bool) (v : AV) : Option AV :=
  match room with
  | false => match v with
    | .tup _ => none
    | v => some v.nrm1
  | true => match v with
    | .sl sz es o => if roomy live o then some (.sl sz es .flag) else none
    | _ => none

def gives (rown : List Nat) (live : List Nat) : Nat → List AV → Option (List AV)
  | _, [] => some []
  | i, v :: r => match giveA live (rown.contains i) v, gives rown (match v with | .sl _ _ o => if rown.contains i then unlive live o else live | _ => live) (i + 1) r with
    | some a, some l => some (a :: l)
    | _, _ => none

def results (F : SF) (s : St) : Option AV :=
  match getRess s F.res with
  | some l => match gives F.rown s.live 0 l with
    | some [v] => some v
    | some l => some (.tup l)
    | none => none
  | none => none

/-- a parameter as it comes in -/
def enterA (pown : List Nat) : Nat → List AV → Option (List AV)
  | _, [] => some []
  | i, v :: r => match enterA pown (i + 1) r with
    | some q => if pown.contains i then
        match v with
        | .sl sz es .flag => some (.sl sz es (.tok i) :: q)
        | _ => none
      else some (v.nrm :: q)
    | none => none

def enter (F : SF) (args : List AV) (pan : Option (Option AV)) (heap : List HObj) : Option St :=
  match enterA F.pown 0 args with
  | some l => if l.length ≤ F.nt ∧ F.pown.all (fun i => decide (i < l.length)) = true then
      some { tmps := l ++ List.replicate (F.nt - l.length) .undef, loc := List.replicate F.nt none, live := F.pown, tk := l.length,
             defers := [], pan := pan, recd := false, heap := heap }
    else none
  | none => none

/-- how a deferred call is made: what is left of the panic, and the heap -/
def callD (body : SF → St → Option (Ex × St)) (Pg : FuncId → Option SF) (f : AV) (args : List AV) (pan : Option AV) (heap : List HObj) :
    Option (Option AV × List HObj) :=
  match f with
  | .fn (.func g) first caps => match Pg g with
    | some F => match enter F (nrms (first ++ args ++ caps)) (some pan) heap with
      | some s => match body F s with
        | some (.norm, s') => if s'.defers.isEmpty && (results F s').isSome then s'.pan.map fun p => (p, s'.heap) else none
        | some (.ret, s') => if s'.defers.isEmpty && (results F s').isSome then s'.pan.map fun p => (p, s'.heap) else none
        | _ => none
      | none => none
    | none => none
  | _ => none

/-- the deferred calls, the last first -/
def runDefers (body : SF → St → Option (Ex × St)) (Pg : FuncId → Option SF) : List (AV × List AV) → Option AV → List HObj → Option (Option AV × List HObj)
  | [], pan, heap => some (pan, heap)
  | (f, args) :: r, pan, heap => match callD body Pg f args pan heap with
    | some (pan', h) => runDefers body Pg r pan' h
    | none => none

def finish (body : SF → St → Option (Ex × St)) (Pg : FuncId → Option SF) (F : SF) (s : St) (pan : Option AV) : Option (Out × List HObj) :=
  match runDefers body Pg s.defers pan s.heap with
  | some (none, h) => (results F { s with heap := h }).map fun v => (.ret v, h)
  | some (some p, h) => some (.pan p, h)
  | none => none

def runBody (body : SF → St → Option (Ex × St)) (Pg : FuncId → Option SF) (f : FuncId) (args : List AV) (heap : List HObj) : Option (Out × List HObj) :=
  match Pg f with
  | some F => match enter F args none heap with
    | some s => match body F s with
      | some (.norm, s') => finish body Pg F s' none
      | some (.ret, s') => finish body Pg F s' none
      | some (.pan v, s') => finish body Pg F s' (some v)
      | _ => none
    | none => none
  | none => none

abbrev Prims := FuncId → Option (List AV → List HObj → Option (Out × List HObj))

def run (Pr : Prims) (Pg : FuncId → Option SF) : Nat → List Nat → SC → St → Option (Ex × St)
  | 0, _, _, _ => none
  | n + 1, keep, c, s =>
    let callF : FuncId → List AV → List HObj → Option (Out × List HObj) := fun f args heap =>
      match Pr f with
      | some p => p args heap
      | none => runBody (fun F s => run Pr Pg n F.keep F.body s) Pg f args heap
    match c with
    | .skip => some (.norm, s)
    | .label _ => some (.norm, s)
    | .region ops draw => runReg callF ops draw s
    | .seq a b => match run Pr Pg n keep a s with
      | some (.norm, s') => run Pr Pg n keep b s'
      | r => r
    | .cond v a b => match ev s v with
      | .bool true => run Pr Pg n keep a s
      | .bool false => run Pr Pg n keep b s
      | _ => none
    | .block id b => match run Pr Pg n keep b s with
      | some (.brk i, s') => if i = id then some (.norm, s') else some (.brk i, s')
      | r => r
    | .loop b => if strays keep s.loc (clr keep .undef 0 s.tmps) then none else match run Pr Pg n keep b (s.clear keep) with
      | some (.norm, s') => run Pr Pg n keep (.loop b) s'
      | r => r
    | .exit id => some (.brk id, s)
    | .goto l => some (.goto l, s)
    | .ret => some (.ret, s)
    | .scope b => run Pr Pg n keep (.inscope b b) s
    | .inscope b c => match run Pr Pg n keep c s with
      | some (.goto l, s') => match findLabel b l with
        | some r => if strays keep s'.loc (clr keep .undef 0 s'.tmps) then none else run Pr Pg n keep (.inscope b r) (s'.clear keep)
        | none => some (.goto l, s')
      | r => r

def callN (Pr : Prims) (Pg : FuncId → Option SF) (n : Nat) (f : FuncId) (args : List AV) (heap : List HObj) : Option (Out × List HObj) :=
  match Pr f with
  | some p => p args heap
  | none => runBody (fun F s => run Pr Pg n F.keep F.body s) Pg f args heap

end Go.PM

/- How a state of the abstract reading stands for the machine's memory: relations, and how they stay. -/
namespace Go.PM

/-- What a cell of the machine's memory is to the reading. -/
inductive Kd
  | free
  | imm (v : Value)
  | obj (id : Nat)
  | osp (id el c : Nat)
  | loc (d t : Nat)
  | tok (d n : Nat)
  | ret (d i : Nat)

structure G where
  K : Nat → Nat → Kd
  adr : Nat → Nat
  osz : Nat → Nat
  n : Nat

def cl (w : World) (b o : Nat) : Option Value := w.cell? ⟨b, o, none⟩
def fz (w : World) (b o : Nat) : Bool := w.frozen? ⟨b, o, none⟩

inductive RV (g : G) : AV → Value → Prop
  | undef (v) : RV g .undef v
  | bool (b) : RV g (.bool b) (.bool b)
  | int (k n) : RV g (.int k n) (.int k n)
  | str (l) (s : ByteArray) (h : s.data.toList = l) : RV g (.str l) (.string s)
  | nilp : RV g .nilp (.pointer none)
  | ptr (id el off) (h : id < g.n) : RV g (.ptr id el off) (.pointer (some ⟨g.adr id, el * g.osz id + off, none⟩))
  | sln (sz own) (a : Option Addr) : RV g (.sl sz [] own) (.slice a 0 0)
  | sl (sz es own b o cap) (val : Nat → Nat → Value) (hc : es.length ≤ cap) (hz : ∀ (i : Nat) (e : List AV), es[i]? = some e → e.length = sz)
      (hi : ∀ (i : Nat) (e : List AV) (j : Nat) av, es[i]? = some e → e[j]? = some av → g.K b (o + (i * sz + j)) = .imm (val i j))
      (hv : ∀ (i : Nat) (e : List AV) (j : Nat) av, es[i]? = some e → e[j]? = some av → RV g av (val i j)) : RV g (.sl sz es own) (.slice (some ⟨b, o, none⟩) es.length cap)
  | eref (cs off b o) (val : Nat → Value) (hi : ∀ (j : Nat) av, cs[j]? = some av → g.K b (o + j) = .imm (val j))
      (hv : ∀ (j : Nat) av, cs[j]? = some av → RV g av (val j)) : RV g (.eref cs off) (.pointer (some ⟨b, o + off, none⟩))
  | fn (f first caps) (fv cv : Array Value) (hf : first.length = fv.size) (hc : caps.length = cv.size)
      (h1 : ∀ (i : Nat) av v, first[i]? = some av → fv[i]? = some v → RV g av v)
      (h2 : ∀ (i : Nat) av v, caps[i]? = some av → cv[i]? = some v → RV g av v) : RV g (.fn f first caps) (.func f fv cv)
  | nilfn : RV g .nilfn .nilFunc
  | nilmap : RV g .nilmap (.map none)
  | mapv (id) (h : id < g.n) : RV g (.mapv id) (.map (some (g.adr id)))
  | iface (t a v) (h : RV g a v) : RV g (.iface t a) (.iface t v)
  | nili : RV g .nili .nilIface
  | agg (cs) (vs : Array Value) (hl : cs.length = vs.size) (h : ∀ (i : Nat) av v, cs[i]? = some av → vs[i]? = some v → RV g av v) : RV g (.agg cs) (.agg vs)
  | tup (cs) (vs : Array Value) (hl : cs.length = vs.size) (h : ∀ (i : Nat) av v, cs[i]? = some av → vs[i]? = some v → RV g av v) : RV g (.tup cs) (.tuple vs)

/-- what only grows -/
structure G.le (g g' : G) : Prop where
  imm : ∀ b o v, g.K b o = .imm v → g'.K b o = .imm v
  n : g.n ≤ g'.n
  adr : ∀ id, id < g.n → g'.adr id = g.adr id
  osz : ∀ id, id < g.n → g'.osz id = g.osz id

theorem G.le.refl (g : G) : g.le g := ⟨fun _ _ _ h => h, Nat.le_refl _, fun _ _ => rfl, fun _ _ => rfl⟩
theorem G.le.trans {a b c : G} (h : a.le b) (k : b.le c) : a.le c :=
  ⟨fun x o v e => k.imm x o v (h.imm x o v e), Nat.le_trans h.n k.n,
   fun id e => (k.adr id (Nat.lt_of_lt_of_le e h.n)).trans (h.adr id e), fun id e => (k.osz id (Nat.lt_of_lt_of_le e h.n)).trans (h.osz id e)⟩

theorem RV.mono {g g' : G} (hg : g.le g') {a : AV} {v : Value} (h : RV g a v) : RV g' a v := by
  induction h with
  | undef v => exact .undef v
  | bool b => exact .bool b
  | int k n => exact .int k n
  | str l s h => exact .str l s h
  | nilp => exact .nilp
  | ptr id el off h =>
    have := RV.ptr (g := g') id el off (Nat.lt_of_lt_of_le h hg.n)
    rwa [hg.adr id h, hg.osz id h] at this
  | sln sz own a => exact .sln sz own a
  | sl sz es own b o cap val hc hz hi hv ih => exact .sl sz es own b o cap val hc hz (fun i e j av h1 h2 => hg.imm _ _ _ (hi i e j av h1 h2)) ih
  | eref cs off b o val hi hv ih => exact .eref cs off b o val (fun j av h1 => hg.imm _ _ _ (hi j av h1)) ih
  | fn f first caps fv cv hf hc h1 h2 ih1 ih2 => exact .fn f first caps fv cv hf hc ih1 ih2
  | nilfn => exact .nilfn
  | nilmap => exact .nilmap
  | mapv id h =>
    have := RV.mapv (g := g') id (Nat.lt_of_lt_of_le h hg.n)
    rwa [hg.adr id h] at this
  | iface t a v h ih => exact .iface t a v ih
  | nili => exact .nili
  | agg cs vs hl h ih => exact .agg cs vs hl ih
  | tup cs vs hl h ih => exact .tup cs vs hl ih

/-- rooms do not matter to what a value is -/
theorem RV.own {g : G} {sz es o o' v} (h : RV g (.sl sz es o) v) : RV g (.sl sz es o') v := by
  cases h with
  | sln => exact .sln _ _ _
  | sl _ _ _ b o cap val hc hz hi hv => exact .sl _ _ _ b o cap val hc hz hi hv

theorem RV.nrm0 {g : G} {a : AV} {v : Value} (h : RV g a v) : RV g a.nrm0 v := by
  cases a <;> simp only [AV.nrm0] <;> first | exact .undef _ | exact h.own | exact h

theorem RV.nrm1 {g : G} {a : AV} {v : Value} (h : RV g a v) : RV g a.nrm1 v := by
  cases a <;> simp only [AV.nrm1] <;> first | exact h.nrm0 | skip
  case agg cs =>
    cases h with
    | agg _ vs hl h =>
      refine .agg _ vs (by simpa using hl) fun i av v h1 h2 => ?_
      simp only [List.getElem?_map, Option.map_eq_some_iff] at h1
      obtain ⟨c, h1, rfl⟩ := h1
      exact (h i c v h1 h2).nrm0

theorem RV.nrm {g : G} {a : AV} {v : Value} (h : RV g a v) : RV g a.nrm v := by
  cases a <;> simp only [AV.nrm] <;> first | exact h.nrm1 | skip
  case tup cs =>
    cases h with
    | tup _ vs hl h =>
      refine .tup _ vs (by simpa using hl) fun i av v h1 h2 => ?_
      simp only [List.getElem?_map, Option.map_eq_some_iff] at h1
      obtain ⟨c, h1, rfl⟩ := h1
      exact (h i c v h1 h2).nrm1

/-! ## memory -/

theorem cl_alloc (w : World) (vs : Array Value) (ty : TypeId) (b o : Nat) :
    cl (w.alloc (.cells vs ty)) b o = if b = w.heap.size then vs[o]? else cl w b o := by
  unfold cl World.cell? World.alloc
  simp only [Array.getElem?_push]
  split <;> rename_i h
  · split at h
    · rename_i hb; simp at h; obtain ⟨rfl, rfl, rfl⟩ := h; simp [hb]
    · rename_i hb; simp [hb, h]
  · split at h
    · rename_i hb; simp at h
    · rename_i hb
      rw [if_neg hb]
      split
      · rename_i h2; exact absurd h2 (h _ _ _)
      · rfl

theorem fz_alloc (w : World) (vs : Array Value) (ty : TypeId) (b o : Nat) :
    fz (w.alloc (.cells vs ty)) b o = if b = w.heap.size then false else fz w b o := by
  unfold fz World.frozen? World.alloc
  simp only [Array.getElem?_push]
  by_cases hb : b = w.heap.size
  · simp [hb]
  · simp [hb]

theorem cl_lt {w : World} {b o : Nat} {v : Value} (h : cl w b o = some v) : b < w.heap.size := by
  unfold cl World.cell? at h
  split at h
  · rename_i h1; exact (Array.getElem?_eq_some_iff.1 h1).1
  · cases h

theorem cl_setCell (w : World) (b0 o0 : Nat) (x : Value) (b o : Nat) (h : (cl w b0 o0).isSome) :
    cl (w.setCell ⟨b0, o0, none⟩ x) b o = if b = b0 ∧ o = o0 then some x else cl w b o := by
  unfold cl at *
  by_cases e : b = b0 ∧ o = o0
  · obtain ⟨rfl, rfl⟩ := e
    obtain ⟨u, hu⟩ := Option.isSome_iff_exists.1 h
    simp only [and_self, if_true]; first | exact World.cell?_setCell_same _ _ _ hu | exact World.cell?_setCell_same _ _ _ _ hu
  · rw [if_neg e, World.cell?_setCell_other]
    intro hh
    simp only [Addr.mk.injEq] at hh
    exact e ⟨hh.1.symm, hh.2.1.symm⟩

theorem fz_setCell (w : World) (b0 o0 : Nat) (x : Value) (b o : Nat) : fz (w.setCell ⟨b0, o0, none⟩ x) b o = fz w b o := by
  unfold fz; rw [World.frozen?_setCell]

/-! ## rooms -/

abbrev Rm := Nat → Option (Nat × Nat × Nat)

def Tk (R : Rm) (k : Nat) : AV → Value → Prop
  | .sl _ es .exact, v => ∀ a len cap, v = .slice a len cap → cap = es.length
  | .sl sz es (.tok n), v => n < k ∧ ∀ b s e, R n = some (b, s, e) → ∀ b' o len cap, v = .slice (some ⟨b', o, none⟩) len cap → es.length < cap → b' = b ∧ s ≤ o + es.length * sz ∧ o + cap * sz ≤ e
  | .lref _ _, _ => False
  | .tup _, _ => False
  | .agg _, _ => False
  | _, _ => True

def Tk1 (R : Rm) (k : Nat) : AV → Value → Prop
  | .agg cs, v => ∀ (i : Nat) c x, cs[i]? = some c → v.cells[i]? = some x → Tk R k c x
  | a, v => Tk R k a v

def tupArr : Value → Array Value
  | .tuple vs => vs
  | _ => #[]

def Tk2 (R : Rm) (k : Nat) : AV → Value → Prop
  | .tup vs, v => ∀ (i : Nat) c x, vs[i]? = some c → (tupArr v)[i]? = some x → Tk1 R k c x
  | a, v => Tk1 R k a v

theorem Tk_nrm0 {R : Rm} {k : Nat} (a : AV) (v : Value) : Tk R k a.nrm0 v := by cases a <;> exact trivial
theorem Tk1_nrm1 {R : Rm} {k : Nat} (a : AV) (v : Value) : Tk1 R k a.nrm1 v := by
  cases a <;> first | exact trivial | skip
  intro i c x h1 h2
  simp only [List.getElem?_map, Option.map_eq_some_iff] at h1
  obtain ⟨b, _, rfl⟩ := h1
  exact Tk_nrm0 b x
theorem Tk2_nrm {R : Rm} {k : Nat} (a : AV) (v : Value) : Tk2 R k a.nrm v := by
  cases a
  case tup vs =>
    intro i c x h1 h2
    simp only [List.getElem?_map, Option.map_eq_some_iff] at h1
    obtain ⟨b, _, rfl⟩ := h1
    exact Tk1_nrm1 b x
  case agg cs => exact Tk1_nrm1 (.agg cs) v
  all_goals exact trivial

/-- a value of a frame -/
def RF (g : G) (L : Nat → Option Nat) (R : Rm) (k : Nat) : AV → Value → Prop
  | .lref t off, v => ∃ b, L t = some b ∧ v = .pointer (some ⟨b, off, none⟩)
  | a, v => RV g a v ∧ Tk2 R k a v

structure FR (g : G) (d : Nat) (s : St) (tm : Array Value) (w : World) (L : Nat → Option Nat) (R : Rm) : Prop where
  sz : tm.size = s.tmps.length
  ls : s.loc.length = s.tmps.length
  tm : ∀ (t : Nat) av v, s.tmps[t]? = some av → tm[t]? = some v → RF g L R s.tk av v
  lc : ∀ (t : Nat) cs, s.loc[t]? = some (some cs) → ∃ b, L t = some b ∧ ∀ (j : Nat) av, cs[j]? = some av →
    g.K b j = .loc d t ∧ ∃ v, cl w b j = some v ∧ RV g av v ∧ Tk R s.tk av v
  rg : ∀ n b x e, R n = some (b, x, e) → ∀ o, x ≤ o → o < e → g.K b o = .tok d n
  rk : ∀ n r, R n = some r → n < s.tk
  lv : ∀ n, n ∈ s.live → (R n).isSome = true
  lk : ∀ n, n ∈ s.live → n < s.tk
  st : ∀ (t t' off : Nat), s.tmps[t]? = some (.lref t' off) → ∃ cs, s.loc[t']? = some (some cs)

def Fl (g : G) (id el c : Nat) : AV → Value → Prop
  | .sl sz es .flag, v => ∀ b o len cap, v = .slice (some ⟨b, o, none⟩) len cap → ∀ k, es.length * sz ≤ k → k < cap * sz → g.K b (o + k) = .osp id el c
  | _, _ => True

def ObjR (g : G) (w : World) (id : Nat) : HObj → Prop
  | .arr sz els => g.osz id = sz ∧ ∀ (el : Nat) cs, els[el]? = some cs → cs.length = sz ∧ ∀ (c : Nat) av, cs[c]? = some av →
      g.K (g.adr id) (el * sz + c) = .obj id ∧ ∃ v, cl w (g.adr id) (el * sz + c) = some v ∧ RV g av v ∧ Fl g id el c av v
  | .map _ => False
  | .dead => True

structure Inv (B : Nat) (g : G) (hp : List HObj) (w : World) : Prop where
  imm : ∀ b o v, g.K b o = .imm v → cl w b o = some v
  own : ∀ b o, g.K b o ≠ .free → (cl w b o).isSome = true
  fz : ∀ b o, g.K b o ≠ .free → (∀ v, g.K b o ≠ .imm v) → fz w b o = false
  low : ∀ b o, b < B → g.K b o = .free ∨ ∃ v, g.K b o = .imm v
  bs : B ≤ w.heap.size
  len : hp.length = g.n
  inj : ∀ i j, i < g.n → j < g.n → g.adr i = g.adr j → i = j
  lt : ∀ i, i < g.n → B ≤ g.adr i ∧ g.adr i < w.heap.size
  hp : ∀ (id : Nat) h, hp[id]? = some h → ObjR g w id h

def Outer (d : Nat) : Kd → Prop
  | .loc e _ => e < d
  | .tok e _ => e < d
  | _ => False

/-- what stays over a run at depth d -/
structure Keep (B d : Nat) (g : G) (w : World) (g' : G) (w' : World) : Prop where
  le : g.le g'
  own : ∀ b o, Outer d (g.K b o) → g'.K b o = g.K b o ∧ cl w' b o = cl w b o
  low : ∀ b, b < B → w'.heap[b]? = w.heap[b]?
  os : w'.os = w.os
  out : w'.output = w.output

theorem Keep.refl (B d : Nat) (g : G) (w : World) : Keep B d g w g w := ⟨.refl g, fun _ _ _ => ⟨rfl, rfl⟩, fun _ _ => rfl, rfl, rfl⟩

theorem Keep.trans {B d : Nat} {g g' g'' : G} {w w' w'' : World} (h : Keep B d g w g' w') (k : Keep B d g' w' g'' w'') : Keep B d g w g'' w'' := by
  refine ⟨h.le.trans k.le, fun b o ho => ?_, fun b hb => (k.low b hb).trans (h.low b hb), k.os.trans h.os, k.out.trans h.out⟩
  obtain ⟨e1, e2⟩ := h.own b o ho
  obtain ⟨e3, e4⟩ := k.own b o (e1 ▸ ho)
  exact ⟨e3.trans e1, e4.trans e2⟩

theorem Outer.mono {d d' : Nat} (h : d ≤ d') {x : Kd} (ho : Outer d x) : Outer d' x := by
  cases x <;> simp_all [Outer] <;> omega

theorem Keep.mono {B d d' : Nat} (hd : d ≤ d') {g g' : G} {w w' : World} (h : Keep B d' g w g' w') : Keep B d g w g' w' :=
  ⟨h.le, fun b o ho => h.own b o (ho.mono hd), h.low, h.os, h.out⟩

theorem RF.mono {g g' : G} (hg : g.le g') {L R k a v} (h : RF g L R k a v) : RF g' L R k a v := by
  cases a <;> simp only [RF] at * <;> first | exact ⟨h.1.mono hg, h.2⟩ | exact h

theorem FR.heap {g : G} {d : Nat} {s : St} {tm : Array Value} {w : World} {L : Nat → Option Nat} {R : Rm} (h : FR g d s tm w L R) (s' : St) (h1 : s'.tmps = s.tmps) (h2 : s'.loc = s.loc) (h3 : s'.live = s.live) (h4 : s'.tk = s.tk) :
    FR g d s' tm w L R := by
  obtain ⟨a, b, c, e, f, i, j, k, l⟩ := h
  refine ⟨by rw [h1]; exact a, by rw [h1, h2]; exact b, by rw [h1, h4]; exact c, by rw [h2, h4]; exact e, f, by rw [h4]; exact i, by rw [h3]; exact j, by rw [h3, h4]; exact k, by rw [h1, h2]; exact l⟩

/-- a frame over a run of a deeper one -/
theorem FR.keep {B d d' : Nat} (hd : d < d') {g g' : G} {s : St} {tm : Array Value} {w w' : World} {L R} (h : FR g d s tm w L R)
    (k : Keep B d' g w g' w') : FR g' d s tm w' L R := by
  refine ⟨h.sz, h.ls, fun t av v h1 h2 => (h.tm t av v h1 h2).mono k.le, fun t cs h1 => ?_, fun n b x e h1 o h2 h3 => ?_, h.rk, h.lv, h.lk, h.st⟩
  · obtain ⟨b, hb, hh⟩ := h.lc t cs h1
    refine ⟨b, hb, fun j av hj => ?_⟩
    obtain ⟨e1, v, e2, e3, e4⟩ := hh j av hj
    obtain ⟨e5, e6⟩ := k.own b j (by rw [e1]; exact hd)
    exact ⟨e5.trans e1, v, e6.trans e2, e3.mono k.le, e4⟩
  · have := h.rg n b x e h1 o h2 h3
    rw [(k.own b o (by rw [this]; exact hd)).1, this]

end Go.PM

/- From the kit's code to the abstract reading's: types and hints are resolved; what it can't read it refuses. -/
namespace Go.PM

/-- where the reading keeps a frame's variables, and which rooms go over a call -/
structure Hints where
  /-- slots whose variable stays in the frame -/
  loc : List Nat
  /-- loads that take the room along -/
  take : List Nat
  keep : List Nat
  pown : List Nat
  rown : List Nat
  /-- for a call that writes this slot: the arguments whose room is handed over -/
  cown : List (Nat × List Nat)
  /-- calls (by the slot that they write) that only read -/
  rc : List Nat

/-- a value of a constant: the same -/
def mt1 : AV → Value → Bool
  | .bool a, .bool b => a == b
  | .int k a, .int k' b => decide (k = k') && a == b
  | .str l, .string s => decide (s.data.toList = l)
  | .nilp, .pointer a => a.isNone
  | .sl _ es .exact, .slice a l c => es.isEmpty && a.isNone && l == 0 && c == 0
  | .nilmap, .map r => r.isNone
  | .nilfn, .nilFunc => true
  | .nili, .nilIface => true
  | _, _ => false

def mts : List AV → List Value → Bool
  | [], [] => true
  | a :: r, v :: q => mt1 a v && mts r q
  | _, _ => false

def zeroA (P : Program) : Nat → TypeId → Option (List AV)
  | 0, _ => none
  | n + 1, t =>
    match P.underlying t with
    | some .bool => some [.bool false]
    | some (.int k) => some [.int k 0]
    | some .string => some [.str []]
    | some (.pointer _) => some [.nilp]
    | some (.slice e) => some [.sl (P.cellsOf e) [] .exact]
    | some (.map _ _) => some [.nilmap]
    | some (.func _ _ _) => some [.nilfn]
    | some (.interface _) => some [.nili]
    | some (.struct fs) => fs.toList.foldr (fun f acc => match acc, zeroA P n f.type with
      | some r, some z => some (z ++ r)
      | _, _ => none) (some [])
    | some (.array k e) => (zeroA P n e).map fun z => (List.replicate k z).flatten
    | _ => none

/-- the zero value of a type, cell by cell, held against the program's own -/
def zeroC (P : Program) (t : TypeId) : Option (List AV) :=
  match zeroA P 12 t, P.info? t with
  | some z, some i => match i.zero with
    | some v => if mts z v.cells.toList && z.length == i.size then some z else none
    | none => none
  | _, _ => none

/-- the zero value of a type, as a value -/
def zeroV (P : Program) (t : TypeId) (ag : Bool) : Option AV :=
  match zeroC P t, P.info? t with
  | some z, some i => match i.zero, ag, z with
    | some (.agg cs), true, z => if mts z cs.toList then some (.agg z) else none
    | some v, false, [a] => if mt1 a v then some a else none
    | _, _, _ => none
  | _, _ => none

def const1 (P : Program) (ty : TypeId) (v : Value) : Option AV :=
  match v with
  | .bool b => some (.bool b)
  | .int k n => some (.int k n)
  | .string s => some (.str s.data.toList)
  | .pointer none => some .nilp
  | .slice none _ _ => match P.underlying ty with
    | some (.slice e) => some (.sl (P.cellsOf e) [] .exact)
    | _ => none
  | .map none => some .nilmap
  | .nilFunc => some .nilfn
  | .nilIface => some .nili
  | _ => none

def const2 (P : Program) (ty : TypeId) (v : Value) : Option AV :=
  match const1 P ty v with
  | some a => if mt1 a v then some a else none
  | none => none

def constG (P : Program) (ty : TypeId) (cs : Array Value) : Option AV :=
  match zeroC P ty with
  | some z => if mts z cs.toList then some (.agg z) else none
  | none => none

def constA (P : Program) (ty : TypeId) (v : Value) : Option AV :=
  match v with
  | .agg cs => constG P ty cs
  | v => const2 P ty v

def cOpd (P : Program) (ty : TypeId) : Operand → Option Opd
  | .tmp t => some (.t t)
  | .const v => (constA P ty v).map .k
  | .func f => some (.k (.fn (.func f) [] []))
  | .global _ => none

def cOpds (P : Program) : List TypeId → List Operand → Option (List Opd)
  | [], [] => some []
  | t :: ts, x :: xs => match cOpd P t x, cOpds P ts xs with
    | some a, some r => some (a :: r)
    | _, _ => none
  | _, _ => none

def cOpdsAny (P : Program) : List Operand → Option (List Opd)
  | [] => some []
  | x :: xs => match cOpd P 0 x, cOpdsAny P xs with
    | some a, some r => some (a :: r)
    | _, _ => none

def isAggT (P : Program) (t : TypeId) : Option Bool :=
  match P.underlying t with
  | some (.struct _) => some true
  | some (.array _ _) => some true
  | some _ => some false
  | none => none

/-- the leaves of a struct type, in order: 0 a number, 1 a text, 2 a bool -/
def leafK (P : Program) : Nat → TypeId → Option (List Nat)
  | 0, _ => none
  | n + 1, t =>
    match P.underlying t, P.info? t with
    | some .bool, some i => if i.size = 1 then some [2] else none
    | some (.int _), some i => if i.size = 1 then some [0] else none
    | some .string, some i => if i.size = 1 then some [1] else none
    | some (.struct fs), some i => if P.stoodInHeld t then none else
      match fs.toList.foldr (fun f acc => match acc, leafK P n f.type with
        | some (q : List Nat × Nat), some ks => if f.name ≠ "_" ∧ f.offset + ks.length = q.2 ∧ 0 < ks.length then some (ks ++ q.1, f.offset) else none
        | _, _ => none) (some ([], i.size)) with
      | some (ks, 0) => some ks
      | _ => none
    | _, _ => none

def isConst : Operand → Bool
  | .const _ => true
  | _ => false

def eqKind (P : Program) (t : TypeId) (x y : Operand) : Option EK :=
  match P.underlying t with
  | some .bool => some .bool
  | some (.int _) => some .no
  | some .string => some .no
  | some (.pointer _) => some .ptr
  | some (.map _ _) => some .map
  | some (.interface _) => if isConst x || isConst y then some .iface else none
  | some (.struct _) => if P.eqGuardType P.depth t then none else (leafK P 12 t).map .st
  | _ => none

def fieldOf (P : Program) (s : TypeId) (f : Nat) : Option Field :=
  match P.underlying s with
  | some (.struct fs) => fs[f]?
  | _ => none

def cParts (P : Program) (fs : Array Field) : List (Nat × Operand) → Option (List (Nat × Nat × Opd))
  | [] => some []
  | (i, x) :: r => match fs[i]? with
    | some f => match P.info? f.type, cOpd P f.type x, cParts P fs r with
      | some inf, some a, some q => if 0 < inf.size then some ((f.offset, inf.size, a) :: q) else none
      | _, _, _ => none
    | none => none

def cElems (P : Program) (e : TypeId) : List (Nat × Operand) → Option (List (Nat × Opd))
  | [] => some []
  | (i, x) :: r => match cOpd P e x, cElems P e r with
    | some a, some q => some ((i, a) :: q)
    | _, _ => none

def cOpt (P : Program) : Option Operand → Option (Option Opd)
  | none => some none
  | some x => (cOpd P 0 x).map some

def isU8 (P : Program) (e : TypeId) : Bool :=
  match P.underlying e with
  | some (.int .u8) => true
  | _ => false

def cConv (P : Program) (src dst : TypeId) : Option Cv :=
  match P.underlying src, P.underlying dst with
  | some (.int _), some (.int k) => some (.int k)
  | some .string, some .string => some .same
  | some (.slice e), some .string => if isU8 P e then some .b2s else none
  | _, _ => none

def cBin : BinOp → Bool
  | .add | .sub | .mul | .quo | .rem | .eql | .neq | .lss | .leq | .gtr | .geq => true
  | _ => false

def cBuiltin (P : Program) (b : Builtin) (argTypes : Array TypeId) (args : Array Operand) : Option SOp :=
  match b, argTypes.toList, args.toList with
  | .len, [t], [x] => match P.underlying t, cOpd P t x with
    | some .string, some a => some (.len true a)
    | some (.slice _), some a => some (.len false a)
    | _, _ => none
  | .append, [t, u], [x, y] => match P.underlying t, cOpd P t x, cOpd P u y with
    | some (.slice e), some a, some b => match P.info? e, P.underlying u with
      | some i, some (.slice e') => if (P.cellsOf e' = i.size ∧ 0 < i.size ∧ 0 < i.bytes ∧ i.bytes ≤ 4096) ∧ (zeroC P e).isSome = true then some (.append i.size a b) else none
      | some i, some .string => if (i.size = 1 ∧ i.bytes = 1 ∧ isU8 P e = true) ∧ (zeroC P e).isSome = true then some (.append 1 a b) else none
      | _, _ => none
    | _, _, _ => none
  | .max, [t, u], [x, y] => match cOpd P t x, cOpd P u y with
    | some a, some b => some (.mnmx true [a, b])
    | _, _ => none
  | .min, [t, u], [x, y] => match cOpd P t x, cOpd P u y with
    | some a, some b => some (.mnmx false [a, b])
    | _, _ => none
  | .recover, [], [] => some .recover
  | _, _, _ => none

def rcHint (H : Hints) : Option Nat → Bool
  | some d => H.rc.contains d
  | none => false

def cOp (P : Program) (H : Hints) (o : Oper) : Option SOp :=
  match o.op with
  | .move x => (cOpd P o.type x).map .mv
  | .assign x => (cOpd P o.type x).map .mv
  | .pick c a b => match cOpd P o.type c, cOpd P o.type a, cOpd P o.type b with
    | some c, some a, some b => some (.pick c a b)
    | _, _, _ => none
  | .alloc e => match zeroC P e, o.dst with
    | some z, some d => if 0 < z.length then some (if H.loc.contains d then .allocL z else .allocH z) else none
    | _, _ => none
  | .box e x => match cOpd P e x, o.dst with
    | some a, some d => if 0 < P.cellsOf e then some (if H.loc.contains d then .boxL (P.cellsOf e) a else .boxH (P.cellsOf e) a) else none
    | _, _ => none
  | .build t ps => match P.underlying t, zeroC P t with
    | some (.struct fs), some z => if fs.toList.all (fun f => (P.info? f.type).isSome) then (cParts P fs ps.toList).map (.build z) else none
    | _, _ => none
  | .buildSlice t len ps => match P.underlying t with
    | some (.slice e) => match P.info? e, zeroC P e, cElems P e ps.toList with
      | some i, some z, some q => if len * i.size ≤ 2 ^ 24 ∧ 0 < i.size then some (.bslice i.size z len q) else none
      | _, _, _ => none
    | _ => none
  | .load t a => match isAggT P t, P.info? t, cOpd P 0 a, o.dst with
    | some ag, some i, some a, some d => if ag = false → i.size = 1 then some (.load ag i.size a (H.take.contains d && !ag)) else none
    | _, _, _, _ => none
  | .store t a x => match P.info? t, cOpd P 0 a, cOpd P t x with
    | some i, some a, some x => if 0 < i.size then some (.store i.size a x) else none
    | _, _, _ => none
  | .nilCheck x => (cOpd P 0 x).map .nilchk
  | .binOp op t x y u => match cOpd P t x, cOpd P u y with
    | some a, some b =>
      if cBin op = true then
        (if op = .eql ∨ op = .neq then (eqKind P t x y).map fun e => .bin op e a b else some (.bin op .no a b))
      else none
    | _, _ => none
  | .unOp op t x => match op, cOpd P t x with
    | .not, some a => some (.un .not a)
    | .neg, some a => some (.un .neg a)
    | _, _ => none
  | .convert s d x => match cConv P s d, cOpd P s x with
    | some c, some a => some (.conv c a)
    | _, _ => none
  | .makeInterface t x => match P.concrete t, cOpd P t x with
    | true, some a => some (.mkif t a)
    | _, _ => none
  | .makeFunc f first caps => match cOpdsAny P first.toList, cOpdsAny P caps.toList with
    | some a, some b => some (.mkfn f a b)
    | _, _ => none
  | .slice t x lo hi mx => match P.underlying t, cOpd P t x, cOpt P lo, cOpt P hi, cOpt P mx with
    | some .string, some a, some l, some h, some m => some (.slice 0 a l h m)
    | some (.slice e), some a, some l, some h, some m => match P.info? e with
      | some i => if 0 < i.size then some (.slice i.size a l h m) else none
      | none => none
    | _, _, _, _, _ => none
  | .fieldAddr s x f => match fieldOf P s f, cOpd P 0 x with
    | some fd, some a => match P.info? fd.type with
      | some i => if 0 < i.size then some (.faddr a fd.offset) else none
      | none => none
    | _, _ => none
  | .field s x f => match fieldOf P s f, cOpd P 0 x with
    | some fd, some a => match isAggT P fd.type, P.info? fd.type with
      | some ag, some i => if ag = false → i.size = 1 then some (.field a fd.offset i.size ag) else none
      | _, _ => none
    | _, _ => none
  | .indexAddr t x i => match P.underlying t, cOpd P t x, cOpd P 0 i with
    | some (.slice e), some a, some b => match P.info? e with
      | some i => if 0 < i.size then some (.iaddr i.size a b) else none
      | none => none
    | _, _, _ => none
  | .index t x i => match P.underlying t, cOpd P t x, cOpd P 0 i with
    | some .string, some a, some b => some (.index a b)
    | _, _, _ => none
  | .typeAssert x _ t ok => match ok, P.concrete t, isAggT P t, cOpd P 0 x with
    | true, true, some ag, some a => (zeroV P t ag).map (.tassert a t)
    | _, _, _, _ => none
  | .extract x i => (cOpd P 0 x).map fun a => .extract a i
  | .call c => match c.callee with
    | .builtin b => cBuiltin P b c.argTypes c.args
    | .value f => match cOpd P 0 f, cOpds P c.argTypes.toList c.args.toList with
      | some f, some a =>
        if rcHint H o.dst = true then some (.rcall f a)
        else some (.call f a ((H.cown.find? fun p => o.dst == some p.1).map (·.2) |>.getD []))
      | _, _ => none
    | .invoke _ _ => none
  | .defer c => match c.callee with
    | .value f => match cOpd P 0 f, cOpds P c.argTypes.toList c.args.toList with
      | some f, some a => some (.dfr f a)
      | _, _ => none
    | _ => none
  | .panic x => (cOpd P 0 x).map .panic
  | _ => none

def cGuard (ops : Array Oper) : Option (Nat × Bool) → Option (Option (Nat × Bool))
  | none => some none
  | some (j, w) => match ops[j]? with
    | some o => match o.dst with
      | some t => some (some (t, w))
      | none => none
    | none => none

/-! ### regions that draw their order -/

def opdT : Opd → List Nat
  | .t n => [n]
  | .k _ => []

/-- what an operation reads -/
def opds : SOp → List Opd
  | .mv x => [x]
  | .pick c a b => [c, a, b]
  | .allocL _ => []
  | .boxL _ x => [x]
  | .allocH _ => []
  | .boxH _ x => [x]
  | .build _ ps => ps.map fun p => p.2.2
  | .bslice _ _ _ ps => ps.map fun p => p.2
  | .load _ _ a _ => [a]
  | .store _ a v => [a, v]
  | .nilchk x => [x]
  | .bin _ _ x y => [x, y]
  | .un _ x => [x]
  | .conv _ x => [x]
  | .mkif _ x => [x]
  | .mkfn _ a b => a ++ b
  | .slice _ x lo hi mx => x :: (lo.toList ++ hi.toList ++ mx.toList)
  | .faddr x _ => [x]
  | .field x _ _ _ => [x]
  | .iaddr _ x i => [x, i]
  | .index x i => [x, i]
  | .tassert x _ _ => [x]
  | .extract x _ => [x]
  | .call f a _ => f :: a
  | .rcall f a => f :: a
  | .dfr f a => f :: a
  | .panic x => [x]
  | .len _ x => [x]
  | .append _ x y => [x, y]
  | .mnmx _ xs => xs
  | .recover => []

/-- the slots that an operation reads -/
def sopT (o : SOp) : List Nat := (opds o).flatMap opdT

/-- no constant is a place of the frame -/
def plainK : Opd → Bool
  | .k (.lref _ _) => false
  | _ => true

def soperT (o : SOper) : List Nat :=
  (match o.guard with | some g => [g.1] | none => []) ++ sopT o.op

/-- places of the effects -/
def effs (l : List SOper) : List Nat := (l.zipIdx.filter fun p => effect p.1.op).map (·.2)

def bef (b : Array Nat) (i j : Nat) : Bool := (b.getD j 0).testBit i

/-- may stand anywhere without harm -/
def calm : SOp → Bool
  | .mv _ | .allocL _ => true
  | _ => false

def annot (b : Array Nat) (es : List Nat) (l : List SOper) : List SOper :=
  l.zipIdx.map fun p =>
    if effect p.1.op then
      { p.1 with lo := if l.zipIdx.all fun q => decide (q.2 ≤ p.2) || bef b p.2 q.2 || calm q.1.op then 1 else 0, hi := 0 }
    else { p.1 with lo := (es.filter fun j => bef b j p.2).length, hi := (es.filter fun j => !bef b p.2 j).length }

def chain (b : Array Nat) : List Nat → Bool
  | i :: r => r.all (fun j => bef b i j) && chain b r
  | [] => true

def nodup : List Nat → Bool
  | [] => true
  | a :: r => !r.contains a && nodup r

/-- each slot that is read is written on one side alone -/
def tmpsOk (b : Array Nat) (l : List SOper) : Bool :=
  l.zipIdx.all fun p => (soperT p.1).all fun t => l.zipIdx.all fun q =>
    if q.1.dst = some t then (if q.2 < p.2 then bef b q.2 p.2 else decide (p.2 = q.2) || bef b p.2 q.2) else true

/-- a local variable's slot is read behind it alone, and none is guarded -/
def allocsOk (l : List SOper) : Bool :=
  l.zipIdx.all fun q => !isAllocL q.1.op || (q.1.guard.isNone && l.zipIdx.all fun p => !decide (p.2 ≤ q.2) || !(match q.1.dst with | some t => (soperT p.1).contains t | none => true))

/-- what must stand ahead of an operation stands ahead of it -/
def edgesOk (ops : Array Oper) : Bool :=
  ops.toList.zipIdx.all fun p => p.1.after.toList.all fun e => !Region.binds .any e || decide (e.on < p.2)

def drawOk (b : Array Nat) (l : List SOper) : Bool :=
  chain b (effs l) && nodup (l.filterMap (·.dst)) && tmpsOk b l && allocsOk l && l.all fun o => (opds o.op).all plainK

def cOper (P : Program) (H : Hints) (ops : Array Oper) (o : Oper) (lo hi : Nat) : Option SOper :=
  match cOp P H o, cGuard ops o.guard with
  | some s, some g => some { dst := o.dst, op := s, guard := g, lo := lo, hi := hi }
  | _, _ => none

def cOpers (P : Program) (H : Hints) (ops : Array Oper) : List Oper → Option (List SOper)
  | [] => some []
  | o :: r => match cOper P H ops o 0 0, cOpers P H ops r with
    | some a, some q => some (a :: q)
    | _, _ => none

def cCode (P : Program) (H : Hints) : Code → Option SC
  | .skip => some .skip
  | .region _ ops draw => match cOpers P H ops ops.toList with
    | some l =>
      if draw then
        (if drawOk (Region.before ops) l && edgesOk ops then some (.region (annot (Region.before ops) (effs l) l) true) else none)
      else some (.region l false)
    | none => none
  | .seq a b => match cCode P H a, cCode P H b with
    | some x, some y => some (.seq x y)
    | _, _ => none
  | .cond c a b => match cOpd P 0 c, cCode P H a, cCode P H b with
    | some c, some x, some y => some (.cond c x y)
    | _, _, _ => none
  | .block id b => (cCode P H b).map (.block id)
  | .loop b => (cCode P H b).map .loop
  | .exit id => some (.exit id)
  | .scope b => (cCode P H b).map .scope
  | .label l => some (.label l)
  | .goto l => some (.goto l)
  | .ret => some .ret
  | _ => none

def cRes (P : Program) : List ResultVar → Option (List SRes)
  | [] => some []
  | .tmp t :: r => (cRes P r).map (.tmp t :: ·)
  | .cell t ty :: r => match isAggT P ty, P.info? ty, cRes P r with
    | some ag, some i, some q => if ag = false → i.size = 1 then some (.cell t ag i.size :: q) else none
    | _, _, _ => none

def cFunc (P : Program) (H : Hints) (f : Func) : Option SF :=
  match f.body with
  | some c => match cCode P H c, cRes P f.results.toList with
    | some b, some r => some { nt := f.ntmps, body := b, res := r, keep := H.keep, pown := H.pown, rown := H.rown }
    | _, _ => none
  | none => none

end Go.PM

/- One operation of the machine against one of the reading: the plain ones. -/
namespace Go.PM

def rho (tm : Array Value) : Operand → Value
  | .tmp t => tm.getD t undef
  | .const v => v
  | .global g => .pointer (some ⟨g, 0, none⟩)
  | .func f => .func (.func f) #[] #[]

/-! ## constants -/

theorem mt1_rv {g : G} {R : Rm} {k : Nat} : ∀ {a : AV} {v : Value}, mt1 a v = true → RV g a v ∧ Tk R k a v := by
  intro a v h
  cases a <;> cases v <;> simp only [mt1, Bool.and_eq_true, beq_iff_eq, decide_eq_true_eq, Bool.false_eq_true] at h
  case bool.bool => subst h; exact ⟨.bool _, trivial⟩
  case int.int => obtain ⟨h1, h2⟩ := h; subst h1; subst h2; exact ⟨.int _ _, trivial⟩
  case str.string => exact ⟨.str _ _ h, trivial⟩
  case nilp.pointer a => cases a <;> simp at h; exact ⟨.nilp, trivial⟩
  case sl.slice sz es o a l c =>
    cases o <;> simp only [mt1, Bool.and_eq_true, beq_iff_eq, Bool.false_eq_true, List.isEmpty_iff, Option.isNone_iff_eq_none] at h
    obtain ⟨⟨⟨h1, h2⟩, h3⟩, h4⟩ := h
    subst h1; subst h2; subst h3; subst h4
    exact ⟨.sln _ _ _, fun a len cap e => by simp only [Value.slice.injEq] at e; simp [← e.2.2]⟩
  case nilmap.map a => cases a <;> simp at h; exact ⟨.nilmap, trivial⟩
  case nilfn.nilFunc => exact ⟨.nilfn, trivial⟩
  case nili.nilIface => exact ⟨.nili, trivial⟩

theorem mt1_r {g : G} {a : AV} {v : Value} (h : mt1 a v = true) : RV g a v := (mt1_rv (g := g) (R := fun _ => none) (k := 0) h).1
theorem mt1_t {R : Rm} {k : Nat} {a : AV} {v : Value} (h : mt1 a v = true) : Tk R k a v := (mt1_rv (g := ⟨fun _ _ => .free, id, id, 0⟩) (R := R) (k := k) h).2
theorem mt1_one {a : AV} {v : Value} (h : mt1 a v = true) : a.one = true := by
  cases a <;> cases v <;> simp_all [mt1, AV.one]

theorem mt1_nl {a : AV} {v : Value} (h : mt1 a v = true) : ∀ t o, a ≠ .lref t o := by
  cases a <;> cases v <;> simp_all [mt1]

theorem mts_get {g : G} {R : Rm} {k : Nat} : ∀ {l : List AV} {vs : List Value}, mts l vs = true → l.length = vs.length ∧
    ∀ (i : Nat) a v, l[i]? = some a → vs[i]? = some v → RV g a v ∧ Tk R k a v ∧ a.one = true ∧ (∀ t o, a ≠ .lref t o)
  | [], [], _ => ⟨rfl, fun i a v h => by simp at h⟩
  | [], _ :: _, h => by simp [mts] at h
  | _ :: _, [], h => by simp [mts] at h
  | a :: l, v :: vs, h => by
    simp only [mts, Bool.and_eq_true] at h
    obtain ⟨h1, h2⟩ := mts_get (g := g) (R := R) (k := k) h.2
    refine ⟨by simp [h1], fun i => ?_⟩
    cases i with
    | zero =>
      intro a' v' e1 e2
      simp at e1 e2
      subst e1; subst e2
      exact ⟨mt1_r h.1, mt1_t h.1, mt1_one h.1, mt1_nl h.1⟩
    | succ i => intro a' v' e1 e2; simp at e1 e2; exact h2 i a' v' e1 e2

theorem zeroC_ok {P : Program} {t : TypeId} {z : List AV} (h : zeroC P t = some z) :
    ∃ i v, P.info? t = some i ∧ i.zero = some v ∧ mts z v.cells.toList = true ∧ z.length = i.size := by
  unfold zeroC at h
  split at h
  · rename_i z' i' h1 h2
    split at h
    · rename_i v hv
      split at h
      · rename_i hh
        simp only [Bool.and_eq_true, beq_iff_eq] at hh
        cases h
        exact ⟨i', v, h2, hv, hh.1, hh.2⟩
      · cases h
    · cases h
  · cases h

theorem RF_of {g : G} {L : Nat → Option Nat} {R : Rm} {k : Nat} {a : AV} {v : Value} (h : RV g a v) (h2 : Tk2 R k a v) : RF g L R k a v := by
  cases a <;> first | exact ⟨h, h2⟩ | cases h

theorem RF.rv {g : G} {L : Nat → Option Nat} {R : Rm} {k : Nat} {a : AV} {v : Value} (h : RF g L R k a v) (hn : ∀ t o, a ≠ .lref t o) : RV g a v ∧ Tk2 R k a v := by
  cases a <;> first | exact h | exact absurd rfl (hn _ _)

theorem Tk2_one {R : Rm} {k : Nat} {a : AV} {v : Value} (h : Tk R k a v) (ho : a.one = true) : Tk2 R k a v := by
  cases a <;> first | exact h | simp [AV.one] at ho

theorem constA_ok {P : Program} {ty : TypeId} {v : Value} {a : AV} (h : constA P ty v = some a) (g : G) (L : Nat → Option Nat) (R : Rm) (k : Nat) :
    RF g L R k a v ∧ ∀ t o, a ≠ .lref t o := by
  have h2 : ∀ v, const2 P ty v = some a → RF g L R k a v ∧ ∀ t o, a ≠ .lref t o := by
    intro v h
    unfold const2 at h
    split at h
    · split at h
      · rename_i hm
        cases h
        exact ⟨RF_of (mt1_r hm) (Tk2_one (mt1_t hm) (mt1_one hm)), mt1_nl hm⟩
      · cases h
    · cases h
  cases v with
  | agg cs =>
    simp only [constA, constG] at h
    split at h
    · rename_i z hz
      split at h
      · rename_i hm
        cases h
        obtain ⟨h1, h2⟩ := mts_get (g := g) (R := R) (k := k) hm
        refine ⟨RF_of (.agg _ _ (by simpa using h1) fun i a v e1 e2 => (h2 i a v e1 (by simpa using e2)).1) ?_, by intro t o; simp⟩
        intro i c x e1 e2
        exact (h2 i c x e1 (by simpa [Value.cells] using e2)).2.1
      · cases h
    · cases h
  | _ => exact h2 _ h

/-! ## operands -/

theorem opd_ok {P : Program} {ty : TypeId} {x : Operand} {a : Opd} (h : cOpd P ty x = some a) {g : G} {d : Nat} {s : St} {tm : Array Value} {w : World}
    {L : Nat → Option Nat} {R : Rm} (hf : FR g d s tm w L R) : RF g L R s.tk (ev s a) (rho tm x) ∧ ∀ t o, ev s a = .lref t o → ∃ cs, s.loc[t]? = some (some cs) := by
  cases x with
  | tmp t =>
    simp only [cOpd, Option.some.injEq] at h
    subst h
    simp only [ev, rho, List.getD_eq_getElem?_getD, Array.getD_eq_getD_getElem?]
    cases h1 : s.tmps[t]? with
    | none => simp only [Option.getD_none]; exact ⟨⟨.undef _, trivial⟩, by intro t o hh; cases hh⟩
    | some av =>
      have hlt : t < s.tmps.length := (List.getElem?_eq_some_iff.1 h1).1
      have hlt' : t < tm.size := by rw [hf.sz]; exact hlt
      have h2 : tm[t]? = some tm[t] := Array.getElem?_eq_getElem hlt'
      rw [h2]
      simp only [Option.getD_some]
      exact ⟨hf.tm t av _ h1 h2, fun t' o hh => hf.st t t' o (hh ▸ h1)⟩
  | const v =>
    simp only [cOpd, Option.map_eq_some_iff] at h
    obtain ⟨a', h, rfl⟩ := h
    obtain ⟨h1, h2⟩ := constA_ok h g L R s.tk
    exact ⟨h1, fun t o hh => absurd hh (h2 t o)⟩
  | func f =>
    simp only [cOpd, Option.some.injEq] at h
    subst h
    exact ⟨⟨.fn _ _ _ #[] #[] rfl rfl (fun i av v h1 => by simp at h1) (fun i av v h1 => by simp at h1), trivial⟩, by intro t o hh; cases hh⟩
  | global _ => simp [cOpd] at h

theorem opd_rv {P : Program} {ty : TypeId} {x : Operand} {a : Opd} (h : cOpd P ty x = some a) {g : G} {d : Nat} {s : St} {tm : Array Value} {w : World}
    {L : Nat → Option Nat} {R : Rm} (hf : FR g d s tm w L R) {av : AV} (he : ev s a = av) (hn : ∀ t o, av ≠ .lref t o) : RV g av (rho tm x) ∧ Tk2 R s.tk av (rho tm x) := by
  have := (opd_ok h hf).1
  rw [he] at this
  exact this.rv hn

/-- cells of a value -/
theorem cells_ok {g : G} {L : Nat → Option Nat} {R : Rm} {k : Nat} {a : AV} {v : Value} (h : RF g L R k a v) (h0 : 0 < a.cells.length) :
    a.cells.length = v.cells.size ∧ ∀ (i : Nat) c x, a.cells[i]? = some c → v.cells[i]? = some x → RV g c.part x ∧ Tk R k c.part x := by
  cases a with
  | agg cs =>
    obtain ⟨h1, h2⟩ := h
    cases h1 with
    | agg _ vs hl hh =>
      refine ⟨by simpa [AV.cells, Value.cells] using hl, fun i c x e1 e2 => ?_⟩
      have r := hh i c x e1 (by simpa [Value.cells] using e2)
      have t := h2 i c x e1 e2
      cases c <;> first | exact ⟨r, t⟩ | exact ⟨.undef _, trivial⟩
  | undef => simp [AV.cells] at h0
  | tup vs => simp [AV.cells] at h0
  | lref t o =>
    obtain ⟨b, _, rfl⟩ := h
    refine ⟨rfl, fun i c x e1 e2 => ?_⟩
    cases i with
    | zero => simp [AV.cells] at e1; subst e1; exact ⟨.undef _, trivial⟩
    | succ i => simp [AV.cells] at e1
  | eref cs o =>
    obtain ⟨h1, _⟩ := h
    cases h1
    refine ⟨rfl, fun i c x e1 e2 => ?_⟩
    cases i with
    | zero => simp [AV.cells] at e1; subst e1; exact ⟨.undef _, trivial⟩
    | succ i => simp [AV.cells] at e1
  | _ =>
    obtain ⟨h1, h2⟩ := h
    have hv : v.cells = #[v] := by cases h1 <;> rfl
    refine ⟨by rw [hv]; rfl, fun i c x e1 e2 => ?_⟩
    cases i with
    | zero =>
      rw [hv] at e2
      simp [AV.cells] at e1 e2
      subst e1; subst e2
      exact ⟨h1, h2⟩
    | succ i => simp [AV.cells] at e1

theorem one_oneCell {g : G} {a : AV} {v : Value} (h : RV g a v) (ho : a.one = true) : v.oneCell' = true := by
  cases h <;> simp_all [AV.one, Value.oneCell']

end Go.PM

/- One operation of the machine against one of the reading: those that only compute. -/
namespace Go.PM

def putT (tm : Array Value) (dst : Option Nat) (v : Value) : Array Value :=
  match dst with
  | some d => tm.setIfInBounds d v
  | none => tm

def lrefOk (s : St) (a : AV) : Prop := ∀ t o, a = .lref t o → ∃ cs, s.loc[t]? = some (some cs)

theorem FR.put {g : G} {d : Nat} {s : St} {tm : Array Value} {w : World} {L : Nat → Option Nat} {R : Rm} (h : FR g d s tm w L R) (dst : Option Nat)
    {a : AV} {v : Value} (ha : RF g L R s.tk a v) (hl : lrefOk s a) : FR g d (s.put dst a) (putT tm dst v) w L R := by
  cases dst with
  | none => exact h
  | some t =>
    refine ⟨by simp [St.put, putT, h.sz], by simp [St.put, h.ls], fun t' av v' h1 h2 => ?_, h.lc, h.rg, h.rk, h.lv, h.lk, fun t1 t2 off h1 => ?_⟩
    · simp only [St.put, putT, List.getElem?_set, Array.getElem?_setIfInBounds] at h1 h2
      by_cases e : t = t'
      · subst e
        simp only [if_true] at h1 h2
        split at h1
        · rename_i hlt
          rw [if_pos (by rw [h.sz]; exact hlt)] at h2
          cases h1; cases h2
          exact ha
        · cases h1
      · rw [if_neg e] at h1 h2
        exact h.tm t' av v' h1 h2
    · simp only [St.put, List.getElem?_set] at h1
      by_cases e : t = t1
      · subst e
        simp only [if_true] at h1
        split at h1
        · cases h1; exact hl _ _ rfl
        · cases h1
      · rw [if_neg e] at h1
        exact h.st t1 t2 off h1

/-- what an operation comes to, if it is neither a call nor a panic -/
def Good (B d : Nat) (g : G) (w : World) (s' : St) (tm : Array Value) (a : AV) (v : Value) (w' : World) : Prop :=
  ∃ g' L' R', Keep B d g w g' w' ∧ Inv B g' s'.heap w' ∧ FR g' d s' tm w' L' R' ∧ RF g' L' R' s'.tk a v ∧ lrefOk s' a

theorem Good.same {B d : Nat} {g : G} {w : World} {s : St} {tm : Array Value} {L : Nat → Option Nat} {R : Rm} {a : AV} {v : Value}
    (hi : Inv B g s.heap w) (hf : FR g d s tm w L R) (h : RF g L R s.tk a v) (hl : lrefOk s a) : Good B d g w s tm a v w :=
  ⟨g, L, R, .refl B d g w, hi, hf, h, hl⟩

theorem lrefOk_of {s : St} {a : AV} (h : ∀ t o, a ≠ .lref t o) : lrefOk s a := fun t o e => absurd e (h t o)

section
variable {P : Program} {H : Hints} {B d : Nat} {g : G} {s : St} {tm : Array Value} {w : World} {L : Nat → Option Nat} {R : Rm}

theorem op_mv {o : Oper} {x : Operand} {a : Opd} (ho : o.op = .move x ∨ o.op = .assign x) (hc : cOpd P o.type x = some a) (hi : Inv B g s.heap w) (hf : FR g d s tm w L R) :
    (execOp (rho tm) o).run P w = .ok (.value (rho tm x)) w ∧ Good B d g w s tm (ev s a) (rho tm x) w := by
  obtain ⟨h1, h2⟩ := opd_ok hc hf
  refine ⟨?_, .same hi hf h1 h2⟩
  rcases ho with ho | ho <;> simp [execOp, ho]

theorem op_pick {o : Oper} {c x y : Operand} {c' x' y' : Opd} (ho : o.op = .pick c x y) (hc : cOpd P o.type c = some c') (hx : cOpd P o.type x = some x') (hy : cOpd P o.type y = some y')
    {t : Bool} (ht : ev s c' = .bool t) (hi : Inv B g s.heap w) (hf : FR g d s tm w L R) :
    ∃ v, (execOp (rho tm) o).run P w = .ok (.value v) w ∧ Good B d g w s tm (if t then ev s x' else ev s y') v w := by
  have h := (opd_rv hc hf ht (by simp)).1
  generalize hv : rho tm c = cv at h
  cases h
  cases t
  · exact ⟨rho tm y, by simp [execOp, ho, hv, asBool], .same hi hf (opd_ok hy hf).1 (opd_ok hy hf).2⟩
  · exact ⟨rho tm x, by simp [execOp, ho, hv, asBool], .same hi hf (opd_ok hx hf).1 (opd_ok hx hf).2⟩

theorem op_nilchk {o : Oper} {x : Operand} {a : Opd} (ho : o.op = .nilCheck x) (hc : cOpd P 0 x = some a) {callF : CallF} {av : AV} {s' : St}
    (hs : stepOp callF o.dst (.nilchk a) s = some (.val av s')) (hi : Inv B g s.heap w) (hf : FR g d s tm w L R) :
    ∃ v, (execOp (rho tm) o).run P w = .ok (.value v) w ∧ Good B d g w s' tm av v w := by
  have h0 := opd_ok hc hf
  simp only [stepOp] at hs
  generalize he : ev s a = e at hs h0
  cases e with
  | ptr id el off =>
    simp only [Option.some.injEq, ORes.val.injEq] at hs
    obtain ⟨rfl, rfl⟩ := hs
    obtain ⟨h1, h2⟩ := h0.1
    generalize hv : rho tm x = cv at h1
    cases h1
    rename_i hid
    exact ⟨_, by simp [execOp, ho, hv], .same hi hf ⟨.ptr _ _ _ hid, trivial⟩ (by intro t o h; cases h)⟩
  | lref t off =>
    simp only [Option.some.injEq, ORes.val.injEq] at hs
    obtain ⟨rfl, rfl⟩ := hs
    obtain ⟨b, hb, hv⟩ := h0.1
    exact ⟨_, by simp [execOp, ho, hv], .same hi hf ⟨b, hb, rfl⟩ h0.2⟩
  | fn f fa fb =>
    cases f <;> simp only [Option.some.injEq, ORes.val.injEq, reduceCtorEq] at hs
    obtain ⟨rfl, rfl⟩ := hs
    obtain ⟨h1, h2⟩ := h0.1
    generalize hv : rho tm x = cv at h1
    have h1' := h1
    cases h1
    exact ⟨_, by simp [execOp, ho, hv], .same hi hf ⟨h1', trivial⟩ (by intro t o h; cases h)⟩
  | _ => simp at hs

end
end Go.PM
