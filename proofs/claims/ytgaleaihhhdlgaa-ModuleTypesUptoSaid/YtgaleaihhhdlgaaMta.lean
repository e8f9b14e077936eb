/- The program's reader of types, one function each: what it answers, and what becomes of the reader. -/
import Derived.Test.YtgaleaihhhdlgaaPm6
import Derived.Test.YtgaleaihhhdlgaaTb1

set_option linter.unusedVariables false
set_option linter.unusedSimpArgs false

namespace Go.Proofs.Ytgaleaihhhdlgaa.MT
open Go.PM Go.Proofs.Ytgaleaihhhdlgaa.Pm

structure Tok where
  kind : Int
  text : List UInt8
  n : Int
  line : Int
  col : Int

def encTok (t : Tok) : List AV := [.int .i64 t.kind, .str t.text, .int .i64 t.n, .int .i64 t.line, .int .i64 t.col]

inductive Ty
  | mk (kind : Int) (name : List UInt8) (n : Int) (args : List Ty)

mutual
def encTy : Ty → List AV
  | .mk k s n args => [.int .i64 k, .str s, .int .i64 n, .sl 4 (encTys args) .none]
def encTys : List Ty → List (List AV)
  | [] => []
  | t :: r => encTy t :: encTys r
end

theorem encTys_append (a b : List Ty) : encTys (a ++ b) = encTys a ++ encTys b := by
  induction a with
  | nil => rfl
  | cons t r ih => simp [encTys, ih]
theorem encTys_len (a : List Ty) : (encTys a).length = a.length := by
  induction a with
  | nil => rfl
  | cons t r ih => simp [encTys, ih]
theorem encTys_get (a : List Ty) (k : Nat) : (encTys a)[k]? = (a[k]?).map encTy := by
  induction a generalizing k with
  | nil => simp [encTys]
  | cons t r ih => cases k <;> simp [encTys, ih]
theorem encTy_one (t : Ty) : (encTy t).all AV.one = true := by cases t; rfl
theorem encTy_len (t : Ty) : (encTy t).length = 4 := by cases t; rfl
theorem encTy_nrm0 (t : Ty) : (encTy t).map AV.nrm0 = encTy t := by cases t; rfl
theorem encTy_part (t : Ty) : (encTy t).map AV.part = encTy t := by cases t; rfl

def rd (l : List Tok) (i : Nat) (d e a b : Int) : HObj := .arr 6 [[.sl 5 (l.map encTok) .none, .int .i64 i, .int .i64 d, .int .i64 e, .int .i64 a, .int .i64 b]]

def endT (l : List Tok) : Tok := match l.getLast? with
  | some t => ⟨-1, [], 0, t.line, t.col⟩
  | none => ⟨-1, [], 0, 0, 0⟩

def nowT (l : List Tok) (i : Nat) : Tok := (l[i]?).getD (endT l)

theorem wrap_nat {n : Int} (h0 : -9223372036854775808 ≤ n) (h1 : n < 9223372036854775808) : IntKind.i64.wrap n = n := by
  simp [IntKind.wrap, IntKind.bits, IntKind.signed]; omega

variable {id : Nat} {heap : List HObj} {l : List Tok} {i : Nat} {d e a b : Int}

theorem ok_eq (h : heap[id]? = some (rd l i d e a b)) :
    callL noPr tab 58 [.ptr id 0 0] heap = some (.ret (.bool (e == 0)), heap) := by
  rw [callL_fn rfl rfl]
  simp only [rd] at h
  simp only [go_sem, ↓reduceIte, ↓reduceDIte, Nat.reduceAdd, Nat.reduceSub, Nat.reduceMul, Nat.reduceLeDiff, Nat.reduceLT, Nat.reduceEqDiff, Nat.reduceBEq, Int.reduceEq, Int.reduceBEq, Int.reduceLT, Int.reduceLE, Int.reduceNeg, Int.reduceToNat, reduceCtorEq, F58, h]

theorem now_eq (h : heap[id]? = some (rd l i d e a b)) (hl : l.length < 2 ^ 60) :
    callL noPr tab 74 [.ptr id 0 0] heap = some (.ret (.agg (encTok (nowT l i))), heap) := by
  rw [callL_fn rfl rfl]
  simp only [rd] at h
  cases hi : l[i]? with
  | some t =>
    have h1 : decide ((i : Int) < (l.length : Int)) = true := by
      have := (List.getElem?_eq_some_iff.1 hi).1
      simp; omega
    simp only [go_sem, ↓reduceIte, ↓reduceDIte, Nat.reduceAdd, Nat.reduceSub, Nat.reduceMul, Nat.reduceLeDiff, Nat.reduceLT, Nat.reduceEqDiff, Nat.reduceBEq, Int.reduceEq, Int.reduceBEq, Int.reduceLT, Int.reduceLE, Int.reduceNeg, Int.reduceToNat, reduceCtorEq, F74, h, h1, hi, encTok, nowT]
  | none =>
    have h1 : decide ((i : Int) < (l.length : Int)) = false := by
      have := List.getElem?_eq_none_iff.1 hi
      simp; omega
    cases hg : l.getLast? with
    | none =>
      have h2 : decide ((l.length : Int) > 0) = false := by
        have : l = [] := by simpa using hg
        subst this; rfl
      simp only [go_sem, ↓reduceIte, ↓reduceDIte, Nat.reduceAdd, Nat.reduceSub, Nat.reduceMul, Nat.reduceLeDiff, Nat.reduceLT, Nat.reduceEqDiff, Nat.reduceBEq, Int.reduceEq, Int.reduceBEq, Int.reduceLT, Int.reduceLE, Int.reduceNeg, Int.reduceToNat, reduceCtorEq, F74, h, h1, h2, hi, hg, encTok, nowT, endT]
    | some t =>
      have h0 : 0 < l.length := by
        cases l with
        | nil => simp at hg
        | cons x r => simp
      have h2 : decide ((l.length : Int) > 0) = true := by simp; omega
      have h3 : IntKind.i64.wrap ((l.length : Int) - 1) = ((l.length - 1 : Nat) : Int) := by
        rw [wrap_nat (by omega) (by omega)]; omega
      have h4 : l[l.length - 1]? = some t := by rw [← hg, List.getLast?_eq_getElem?]
      simp only [go_sem, ↓reduceIte, ↓reduceDIte, Nat.reduceAdd, Nat.reduceSub, Nat.reduceMul, Nat.reduceLeDiff, Nat.reduceLT, Nat.reduceEqDiff, Nat.reduceBEq, Int.reduceEq, Int.reduceBEq, Int.reduceLT, Int.reduceLE, Int.reduceNeg, Int.reduceToNat, reduceCtorEq, F74, h, h1, h2, h3, h4, hi, hg, encTok, nowT, endT]

/-- whether that comes next -/
def isT (l : List Tok) (i : Nat) (k : Int) (s : List UInt8) : Bool := (nowT l i).kind == k && decide ((nowT l i).text = s)

theorem is_eq0 {k : Int} {s : List UInt8} (h : heap[id]? = some (rd l i d 0 a b)) (hl : l.length < 2 ^ 60) :
    callL noPr tab 76 [.ptr id 0 0, .int .i64 k, .str s] heap = some (.ret (.bool (isT l i k s)), heap) := by
  rw [callL_fn rfl rfl]
  have h1 := now_eq h hl
  have h2 := ok_eq h
  cases h3 : ((nowT l i).kind == k) <;> simp only [go_sem, ↓reduceIte, ↓reduceDIte, Nat.reduceAdd, Nat.reduceSub, Nat.reduceMul, Nat.reduceLeDiff, Nat.reduceLT, Nat.reduceEqDiff, Nat.reduceBEq, Int.reduceEq, Int.reduceBEq, Int.reduceLT, Int.reduceLE, Int.reduceNeg, Int.reduceToNat, reduceCtorEq, F76, h1, h2, h3, encTok, isT, BEq.rfl]

theorem is_eq1 {k : Int} {s : List UInt8} (h : heap[id]? = some (rd l i d 1 a b)) (hl : l.length < 2 ^ 60) :
    callL noPr tab 76 [.ptr id 0 0, .int .i64 k, .str s] heap = some (.ret (.bool false), heap) := by
  rw [callL_fn rfl rfl]
  have h1 := now_eq h hl
  have h2 := ok_eq h
  simp only [go_sem, ↓reduceIte, ↓reduceDIte, Nat.reduceAdd, Nat.reduceSub, Nat.reduceMul, Nat.reduceLeDiff, Nat.reduceLT, Nat.reduceEqDiff, Nat.reduceBEq, Int.reduceEq, Int.reduceBEq, Int.reduceLT, Int.reduceLE, Int.reduceNeg, Int.reduceToNat, reduceCtorEq, F76, h1, h2, encTok, BEq.rfl]

theorem fail_eq0 (h : heap[id]? = some (rd l i d 0 a b)) (hl : l.length < 2 ^ 60) :
    callL noPr tab 137 [.ptr id 0 0] heap = some (.ret (.tup []), heap.set id (rd l i d 1 (nowT l i).line (nowT l i).col)) := by
  rw [callL_fn rfl rfl]
  have h1 := now_eq h hl
  have h2 := ok_eq h
  simp only [rd] at h
  simp only [go_sem, ↓reduceIte, ↓reduceDIte, Nat.reduceAdd, Nat.reduceSub, Nat.reduceMul, Nat.reduceLeDiff, Nat.reduceLT, Nat.reduceEqDiff, Nat.reduceBEq, Int.reduceEq, Int.reduceBEq, Int.reduceLT, Int.reduceLE, Int.reduceNeg, Int.reduceToNat, reduceCtorEq, F137, h1, h2, h, encTok, rd, BEq.rfl]

theorem fail_eq1 (h : heap[id]? = some (rd l i d 1 a b)) :
    callL noPr tab 137 [.ptr id 0 0] heap = some (.ret (.tup []), heap) := by
  rw [callL_fn rfl rfl]
  have h2 := ok_eq h
  simp only [go_sem, ↓reduceIte, ↓reduceDIte, Nat.reduceAdd, Nat.reduceSub, Nat.reduceMul, Nat.reduceLeDiff, Nat.reduceLT, Nat.reduceEqDiff, Nat.reduceBEq, Int.reduceEq, Int.reduceBEq, Int.reduceLT, Int.reduceLE, Int.reduceNeg, Int.reduceToNat, reduceCtorEq, F137, h2]

theorem take_no {k : Int} {s : List UInt8} (h : heap[id]? = some (rd l i d 0 a b)) (hl : l.length < 2 ^ 60) (hn : isT l i k s = false) :
    callL noPr tab 75 [.ptr id 0 0, .int .i64 k, .str s] heap = some (.ret (.tup []), heap.set id (rd l i d 1 (nowT l i).line (nowT l i).col)) := by
  rw [callL_fn rfl rfl]
  have h1 := is_eq0 (k := k) (s := s) h hl
  have h2 := fail_eq0 h hl
  rw [hn] at h1
  simp only [go_sem, ↓reduceIte, ↓reduceDIte, Nat.reduceAdd, Nat.reduceSub, Nat.reduceMul, Nat.reduceLeDiff, Nat.reduceLT, Nat.reduceEqDiff, Nat.reduceBEq, Int.reduceEq, Int.reduceBEq, Int.reduceLT, Int.reduceLE, Int.reduceNeg, Int.reduceToNat, reduceCtorEq, F75, h1, h2]

theorem take_bad {k : Int} {s : List UInt8} (h : heap[id]? = some (rd l i d 1 a b)) (hl : l.length < 2 ^ 60) :
    callL noPr tab 75 [.ptr id 0 0, .int .i64 k, .str s] heap = some (.ret (.tup []), heap) := by
  rw [callL_fn rfl rfl]
  have h1 := is_eq1 (k := k) (s := s) h hl
  have h2 := fail_eq1 h
  simp only [go_sem, ↓reduceIte, ↓reduceDIte, Nat.reduceAdd, Nat.reduceSub, Nat.reduceMul, Nat.reduceLeDiff, Nat.reduceLT, Nat.reduceEqDiff, Nat.reduceBEq, Int.reduceEq, Int.reduceBEq, Int.reduceLT, Int.reduceLE, Int.reduceNeg, Int.reduceToNat, reduceCtorEq, F75, h1, h2]

theorem isT_lt {k : Int} {s : List UInt8} (hk : k ≠ -1) (h : isT l i k s = true) : i < l.length := by
  refine Classical.byContradiction fun hn => ?_
  have : l[i]? = none := by simp; omega
  unfold isT nowT endT at h
  rw [this] at h
  cases hg : l.getLast? <;> rw [hg] at h <;> simp at h <;> exact hk h.1.symm

theorem kind_lt {k : Int} (hk : k ≠ -1) (h : (nowT l i).kind = k) : i < l.length := by
  refine Classical.byContradiction fun hn => ?_
  have : l[i]? = none := by simp; omega
  unfold nowT endT at h
  rw [this] at h
  cases hg : l.getLast? <;> rw [hg] at h <;> simp at h <;> exact hk h.symm

theorem up {n : Nat} (h : n < 2 ^ 61) : IntKind.i64.wrap ((n : Int) + 1) = ((n + 1 : Nat) : Int) := by
  rw [wrap_nat (by omega) (by omega)]; omega

theorem take_yes {k : Int} {s : List UInt8} (h : heap[id]? = some (rd l i d 0 a b)) (hl : l.length < 2 ^ 60) (hk : k ≠ -1) (hn : isT l i k s = true) :
    callL noPr tab 75 [.ptr id 0 0, .int .i64 k, .str s] heap = some (.ret (.tup []), heap.set id (rd l (i + 1) d 0 a b)) := by
  rw [callL_fn rfl rfl]
  have h1 := is_eq0 (k := k) (s := s) h hl
  have h3 := up (n := i) (by have := isT_lt hk hn; omega)
  rw [hn] at h1
  simp only [rd] at h
  simp only [go_sem, ↓reduceIte, ↓reduceDIte, Nat.reduceAdd, Nat.reduceSub, Nat.reduceMul, Nat.reduceLeDiff, Nat.reduceLT, Nat.reduceEqDiff, Nat.reduceBEq, Int.reduceEq, Int.reduceBEq, Int.reduceLT, Int.reduceLE, Int.reduceNeg, Int.reduceToNat, reduceCtorEq, F75, h1, h, h3, rd]

/-- whether a part of a type can begin here -/
def startsT (l : List Tok) (i : Nat) : Bool := (nowT l i).kind == 2 || ((nowT l i).kind == 3 || isT l i 6 [40])

theorem starts_eq0 (h : heap[id]? = some (rd l i d 0 a b)) (hl : l.length < 2 ^ 60) :
    callL noPr tab 173 [.ptr id 0 0] heap = some (.ret (.bool (startsT l i)), heap) := by
  rw [callL_fn rfl rfl]
  have h1 := now_eq h hl
  have h2 := ok_eq h
  have h5 := is_eq0 (k := 6) (s := [40]) h hl
  cases h3 : ((nowT l i).kind == 2) <;> cases h4 : ((nowT l i).kind == 3) <;> simp only [go_sem, ↓reduceIte, ↓reduceDIte, Nat.reduceAdd, Nat.reduceSub, Nat.reduceMul, Nat.reduceLeDiff, Nat.reduceLT, Nat.reduceEqDiff, Nat.reduceBEq, Int.reduceEq, Int.reduceBEq, Int.reduceLT, Int.reduceLE, Int.reduceNeg, Int.reduceToNat, reduceCtorEq, F173, h1, h2, h3, h4, h5, encTok, startsT, BEq.rfl]

theorem starts_eq1 (h : heap[id]? = some (rd l i d 1 a b)) (hl : l.length < 2 ^ 60) :
    callL noPr tab 173 [.ptr id 0 0] heap = some (.ret (.bool false), heap) := by
  rw [callL_fn rfl rfl]
  have h1 := now_eq h hl
  have h2 := ok_eq h
  simp only [go_sem, ↓reduceIte, ↓reduceDIte, Nat.reduceAdd, Nat.reduceSub, Nat.reduceMul, Nat.reduceLeDiff, Nat.reduceLT, Nat.reduceEqDiff, Nat.reduceBEq, Int.reduceEq, Int.reduceBEq, Int.reduceLT, Int.reduceLE, Int.reduceNeg, Int.reduceToNat, reduceCtorEq, F173, h1, h2, encTok, BEq.rfl]

end Go.Proofs.Ytgaleaihhhdlgaa.MT

/- The program's types, read from tokens. -/
namespace Go.Proofs.Ytgaleaihhhdlgaa.MT
open Go.PM Go.Proofs.Ytgaleaihhhdlgaa.Pm

inductive PR
  | fail (x y : Int)
  | ok (j : Nat) (t : Ty)
inductive PRs
  | fail (x y : Int)
  | ok (j : Nat) (ts : List Ty)

def Post (f : FuncId) (l : List Tok) (d : Int) (id : Nat) (heap : List HObj) (a b : Int) : PR → Prop
  | .ok j t => callL noPr tab f [.ptr id 0 0] heap = some (.ret (.agg (encTy t)), heap.set id (rd l j d 0 a b))
  | .fail x y => ∃ (j : Nat) (t : Ty), callL noPr tab f [.ptr id 0 0] heap = some (.ret (.agg (encTy t)), heap.set id (rd l j d 1 x y))

def PTyp (l : List Tok) (i d : Nat) (r : PR) : Prop := ∀ id heap a b, heap[id]? = some (rd l i d 0 a b) → Post 57 l d id heap a b r
def PAtom (l : List Tok) (i d : Nat) (r : PR) : Prop := ∀ id heap a b, heap[id]? = some (rd l i d 0 a b) → Post 116 l d id heap a b r

def Posts (l : List Tok) (d : Int) (id : Nat) (heap : List HObj) (a b : Int) : PRs → Prop
  | .ok j ts => callL noPr tab 115 [.ptr id 0 0] heap = some (.ret (.sl 4 (encTys ts) .none), heap.set id (rd l j d 0 a b))
  | .fail x y => ∃ (j : Nat) (ts : List Ty), callL noPr tab 115 [.ptr id 0 0] heap = some (.ret (.sl 4 (encTys ts) .none), heap.set id (rd l j d 1 x y))

def PAtoms (l : List Tok) (i d : Nat) (r : PRs) : Prop := ∀ id heap a b, heap[id]? = some (rd l i d 0 a b) → Posts l d id heap a b r

def closeR (l : List Tok) : PR → PR
  | .fail x y => .fail x y
  | .ok j t => if isT l j 6 [41] then .ok (j + 1) t else .fail (nowT l j).line (nowT l j).col
def conR (s : List UInt8) : PRs → PR
  | .fail x y => .fail x y
  | .ok j ts => .ok j (.mk 2 s 0 ts)
def consR (t : Ty) : PRs → PRs
  | .fail x y => .fail x y
  | .ok j ts => .ok j (t :: ts)

theorem set_self {α : Type} {l : List α} {i : Nat} {x : α} (h : l[i]? = some x) : l.set i x = l := by
  apply List.ext_getElem?
  intro j
  rw [List.getElem?_set]
  by_cases e : i = j
  · subst e; rw [if_pos rfl, if_pos (List.getElem?_eq_some_iff.1 h).1, h]
  · rw [if_neg e]

def zeroTy : Ty := .mk 0 [] 0 []

section
variable {id : Nat} {heap : List HObj} {l : List Tok} {i d : Nat} {a b : Int}

theorem typ_bad {d : Int} (h : heap[id]? = some (rd l i d 1 a b)) : callL noPr tab 57 [.ptr id 0 0] heap = some (.ret (.agg (encTy zeroTy)), heap) := by
  rw [callL_fn rfl rfl]
  have h2 := ok_eq h
  simp only [go_sem, ↓reduceIte, ↓reduceDIte, Nat.reduceAdd, Nat.reduceSub, Nat.reduceMul, Nat.reduceLeDiff, Nat.reduceLT, Nat.reduceEqDiff, Nat.reduceBEq, Int.reduceEq, Int.reduceBEq, Int.reduceLT, Int.reduceLE, Int.reduceNeg, Int.reduceToNat, reduceCtorEq, F57, h2, encTy, encTys, zeroTy]

theorem atom_low (hl : l.length < 2 ^ 60) (hk : (nowT l i).kind = 2) : PAtom l i d (.ok (i + 1) (.mk 1 (nowT l i).text 0 [])) := by
  intro id heap a b h
  show callL _ _ _ _ _ = _
  rw [callL_fn rfl rfl]
  have h1 := now_eq h hl
  have h3 := up (n := i) (by have := kind_lt (k := 2) (by decide) hk; omega)
  simp only [rd, encTok, hk] at h h1 ⊢
  simp only [go_sem, ↓reduceIte, ↓reduceDIte, Nat.reduceAdd, Nat.reduceSub, Nat.reduceMul, Nat.reduceLeDiff, Nat.reduceLT, Nat.reduceEqDiff, Nat.reduceBEq, Int.reduceEq, Int.reduceBEq, Int.reduceLT, Int.reduceLE, Int.reduceNeg, Int.reduceToNat, reduceCtorEq, F116, h1, h, h3, encTy, encTys]

theorem atom_up (hl : l.length < 2 ^ 60) (hk : (nowT l i).kind = 3) : PAtom l i d (.ok (i + 1) (.mk 2 (nowT l i).text 0 [])) := by
  intro id heap a b h
  show callL _ _ _ _ _ = _
  rw [callL_fn rfl rfl]
  have h1 := now_eq h hl
  have h3 := up (n := i) (by have := kind_lt (k := 3) (by decide) hk; omega)
  simp only [rd, encTok, hk] at h h1 ⊢
  simp only [go_sem, ↓reduceIte, ↓reduceDIte, Nat.reduceAdd, Nat.reduceSub, Nat.reduceMul, Nat.reduceLeDiff, Nat.reduceLT, Nat.reduceEqDiff, Nat.reduceBEq, Int.reduceEq, Int.reduceBEq, Int.reduceLT, Int.reduceLE, Int.reduceNeg, Int.reduceToNat, reduceCtorEq, F116, h1, h, h3, encTy, encTys]

theorem dup (hd : d ≤ 40) : IntKind.i64.wrap ((d : Int) + 1) = ((d + 1 : Nat) : Int) := by
  rw [wrap_nat (by omega) (by omega)]; omega
theorem ddn (hd : d ≤ 40) : IntKind.i64.wrap (((d + 1 : Nat) : Int) - 1) = (d : Int) := by
  rw [wrap_nat (by omega) (by omega)]; omega

theorem atom_deep (hl : l.length < 2 ^ 60) (h2 : ((nowT l i).kind == 2) = false) (h3 : ((nowT l i).kind == 3) = false) : PAtom l i 40 (.fail (nowT l i).line (nowT l i).col) := by
  intro id heap a b h
  have e1 := now_eq h hl
  have e2 := fail_eq0 h hl
  have g1 := getElem?_set_hit (x := rd l i 40 1 (nowT l i).line (nowT l i).col) h
  have e3 := take_bad (k := 6) (s := [40]) g1 hl
  have g2 := getElem?_set_hit (x := rd l i 41 1 (nowT l i).line (nowT l i).col) h
  have e4 := typ_bad g2
  have e5 := take_bad (k := 6) (s := [41]) g1 hl
  have w1 : IntKind.i64.wrap (40 + 1) = 41 := rfl
  have w2 : IntKind.i64.wrap (41 - 1) = 40 := rfl
  refine ⟨i, zeroTy, ?_⟩
  rw [callL_fn rfl rfl]
  simp only [rd, encTok, encTy, encTys, zeroTy, Int.cast_ofNat_Int] at *
  simp only [go_sem, ↓reduceIte, ↓reduceDIte, Nat.reduceAdd, Nat.reduceSub, Nat.reduceMul, Nat.reduceLeDiff, Nat.reduceLT, Nat.reduceEqDiff, Nat.reduceBEq, Int.reduceEq, Int.reduceBEq, Int.reduceLT, Int.reduceLE, Int.reduceNeg, Int.reduceToNat, reduceCtorEq, F116, h, g1, g2, e1, e2, e3, e4, e5, h2, h3, w1, w2]

theorem atom_not (hl : l.length < 2 ^ 60) (hd : d ≤ 40) (hd' : d ≠ 40) (h2 : ((nowT l i).kind == 2) = false) (h3 : ((nowT l i).kind == 3) = false) (h4 : isT l i 6 [40] = false) : PAtom l i d (.fail (nowT l i).line (nowT l i).col) := by
  intro id heap a b h
  have e1 := now_eq h hl
  have e2 := take_no (k := 6) (s := [40]) h hl h4
  have g1 := getElem?_set_hit (x := rd l i d 1 (nowT l i).line (nowT l i).col) h
  have g2 := getElem?_set_hit (x := rd l i ((d + 1 : Nat) : Int) 1 (nowT l i).line (nowT l i).col) h
  have e4 := typ_bad g2
  have e5 := take_bad (k := 6) (s := [41]) g1 hl
  have w0 : ((d : Int) == 40) = false := by simp; omega
  have w1 := dup hd
  have w2 := ddn hd
  refine ⟨i, zeroTy, ?_⟩
  rw [callL_fn rfl rfl]
  simp only [rd, encTok, encTy, encTys, zeroTy] at *
  simp only [go_sem, ↓reduceIte, ↓reduceDIte, Nat.reduceAdd, Nat.reduceSub, Nat.reduceMul, Nat.reduceLeDiff, Nat.reduceLT, Nat.reduceEqDiff, Nat.reduceBEq, Int.reduceEq, Int.reduceBEq, Int.reduceLT, Int.reduceLE, Int.reduceNeg, Int.reduceToNat, reduceCtorEq, F116, h, g1, g2, e1, e2, e4, e5, h2, h3, w0, w1, w2]

theorem atom_paren (hl : l.length < 2 ^ 60) (hd : d ≤ 40) (hd' : d ≠ 40) (h2 : ((nowT l i).kind == 2) = false) (h3 : ((nowT l i).kind == 3) = false) (h4 : isT l i 6 [40] = true) {r : PR} (hr : PTyp l (i + 1) (d + 1) r) : PAtom l i d (closeR l r) := by
  intro id heap a b h
  have e1 := now_eq h hl
  have e2 := take_yes (k := 6) (s := [40]) h hl (by decide) h4
  have g1 := getElem?_set_hit (x := rd l (i + 1) d 0 a b) h
  have g2 := getElem?_set_hit (x := rd l (i + 1) ((d + 1 : Nat) : Int) 0 a b) h
  have e3 := hr id _ a b g2
  have w0 : ((d : Int) == 40) = false := by simp; omega
  have w1 := dup hd
  have w2 := ddn hd
  cases r with
  | fail x y =>
    obtain ⟨j, t, e3⟩ := e3
    have g3 := getElem?_set_hit (x := rd l j ((d + 1 : Nat) : Int) 1 x y) h
    have g4 := getElem?_set_hit (x := rd l j d 1 x y) h
    have e5 := take_bad (k := 6) (s := [41]) g4 hl
    obtain ⟨k0, n0, q0, a0⟩ := t
    refine ⟨j, .mk k0 n0 q0 a0, ?_⟩
    rw [callL_fn rfl rfl]
    simp only [rd, encTok, encTy] at *
    simp only [go_sem, ↓reduceIte, ↓reduceDIte, Nat.reduceAdd, Nat.reduceSub, Nat.reduceMul, Nat.reduceLeDiff, Nat.reduceLT, Nat.reduceEqDiff, Nat.reduceBEq, Int.reduceEq, Int.reduceBEq, Int.reduceLT, Int.reduceLE, Int.reduceNeg, Int.reduceToNat, reduceCtorEq, F116, h, g1, g2, g3, g4, e1, e2, e3, e5, h2, h3, w0, w1, w2]
  | ok j t =>
    have e3 : callL _ _ _ _ _ = _ := e3
    have g3 := getElem?_set_hit (x := rd l j ((d + 1 : Nat) : Int) 0 a b) h
    have g4 := getElem?_set_hit (x := rd l j d 0 a b) h
    obtain ⟨k0, n0, q0, a0⟩ := t
    cases hj : isT l j 6 [41] with
    | true =>
      have e5 := take_yes (k := 6) (s := [41]) g4 hl (by decide) hj
      simp only [closeR, hj, if_true]
      show callL _ _ _ _ _ = _
      rw [callL_fn rfl rfl]
      simp only [rd, encTok, encTy] at *
      simp only [go_sem, ↓reduceIte, ↓reduceDIte, Nat.reduceAdd, Nat.reduceSub, Nat.reduceMul, Nat.reduceLeDiff, Nat.reduceLT, Nat.reduceEqDiff, Nat.reduceBEq, Int.reduceEq, Int.reduceBEq, Int.reduceLT, Int.reduceLE, Int.reduceNeg, Int.reduceToNat, reduceCtorEq, F116, h, g1, g2, g3, g4, e1, e2, e3, e5, h2, h3, w0, w1, w2]
    | false =>
      have e5 := take_no (k := 6) (s := [41]) g4 hl hj
      simp only [closeR, hj, if_false, Bool.false_eq_true]
      refine ⟨j, .mk k0 n0 q0 a0, ?_⟩
      rw [callL_fn rfl rfl]
      simp only [rd, encTok, encTy] at *
      simp only [go_sem, ↓reduceIte, ↓reduceDIte, Nat.reduceAdd, Nat.reduceSub, Nat.reduceMul, Nat.reduceLeDiff, Nat.reduceLT, Nat.reduceEqDiff, Nat.reduceBEq, Int.reduceEq, Int.reduceBEq, Int.reduceLT, Int.reduceLE, Int.reduceNeg, Int.reduceToNat, reduceCtorEq, F116, h, g1, g2, g3, g4, e1, e2, e3, e5, h2, h3, w0, w1, w2]
  
theorem typ_con (hl : l.length < 2 ^ 60) (h3 : (nowT l i).kind = 3) {r : PRs} (hr : PAtoms l (i + 1) d r) : PTyp l i d (conR (nowT l i).text r) := by
  intro id heap a b h
  have e0 := ok_eq h
  have e1 := now_eq h hl
  have w3 := up (n := i) (by have := kind_lt (k := 3) (by decide) h3; omega)
  have g1 := getElem?_set_hit (x := rd l (i + 1) d 0 a b) h
  have e3 := hr id _ a b g1
  cases r with
  | fail x y =>
    obtain ⟨j, ts, e3⟩ := e3
    refine ⟨j, .mk 2 (nowT l i).text 0 ts, ?_⟩
    rw [callL_fn rfl rfl]
    simp only [rd, encTok, encTy] at *
    simp only [go_sem, ↓reduceIte, ↓reduceDIte, Nat.reduceAdd, Nat.reduceSub, Nat.reduceMul, Nat.reduceLeDiff, Nat.reduceLT, Nat.reduceEqDiff, Nat.reduceBEq, Int.reduceEq, Int.reduceBEq, Int.reduceLT, Int.reduceLE, Int.reduceNeg, Int.reduceToNat, reduceCtorEq, F57, h, g1, e0, e1, e3, h3, w3]
  | ok j ts =>
    have e3 : callL _ _ _ _ _ = _ := e3
    show callL _ _ _ _ _ = _
    rw [callL_fn rfl rfl]
    simp only [rd, encTok, encTy] at *
    simp only [go_sem, ↓reduceIte, ↓reduceDIte, Nat.reduceAdd, Nat.reduceSub, Nat.reduceMul, Nat.reduceLeDiff, Nat.reduceLT, Nat.reduceEqDiff, Nat.reduceBEq, Int.reduceEq, Int.reduceBEq, Int.reduceLT, Int.reduceLE, Int.reduceNeg, Int.reduceToNat, reduceCtorEq, F57, h, g1, e0, e1, e3, h3, w3]

theorem typ_atom (hl : l.length < 2 ^ 60) (h3 : ((nowT l i).kind == 3) = false) {r : PR} (hr : PAtom l i d r) : PTyp l i d r := by
  intro id heap a b h
  have e0 := ok_eq h
  have e1 := now_eq h hl
  have e3 := hr id _ a b h
  cases r with
  | fail x y =>
    obtain ⟨j, t, e3⟩ := e3
    refine ⟨j, t, ?_⟩
    cases t
    rw [callL_fn rfl rfl]
    simp only [rd, encTok, encTy] at *
    simp only [go_sem, ↓reduceIte, ↓reduceDIte, Nat.reduceAdd, Nat.reduceSub, Nat.reduceMul, Nat.reduceLeDiff, Nat.reduceLT, Nat.reduceEqDiff, Nat.reduceBEq, Int.reduceEq, Int.reduceBEq, Int.reduceLT, Int.reduceLE, Int.reduceNeg, Int.reduceToNat, reduceCtorEq, F57, h, e0, e1, e3, h3]
  | ok j t =>
    have e3 : callL _ _ _ _ _ = _ := e3
    show callL _ _ _ _ _ = _
    cases t
    rw [callL_fn rfl rfl]
    simp only [rd, encTok, encTy] at *
    simp only [go_sem, ↓reduceIte, ↓reduceDIte, Nat.reduceAdd, Nat.reduceSub, Nat.reduceMul, Nat.reduceLeDiff, Nat.reduceLT, Nat.reduceEqDiff, Nat.reduceBEq, Int.reduceEq, Int.reduceBEq, Int.reduceLT, Int.reduceLE, Int.reduceNeg, Int.reduceToNat, reduceCtorEq, F57, h, e0, e1, e3, h3]

end
end Go.Proofs.Ytgaleaihhhdlgaa.MT

/- The program's atoms, a loop; and a type at any place. -/
namespace Go.Proofs.Ytgaleaihhhdlgaa.MT
open Go.PM Go.Proofs.Ytgaleaihhhdlgaa.Pm

/-- the state at the loop's head -/
def C115 (id : Nat) (acc : List Ty) (own : Own) (live : List Nat) (tk : Nat) (heap : List HObj) : St :=
  { tmps := [.ptr id 0 0, .undef, .undef, .sl 4 (encTys acc) own, .undef, .undef, .undef, .undef, .undef, .undef, .undef, .undef], loc := [none, none, none, none, none, none, none, none, none, none, none, none], live := live, tk := tk, defers := [], pan := none, recd := false, heap := heap }
/-- behind it -/
def E115 (id : Nat) (acc : List Ty) (own : Own) (live : List Nat) (tk : Nat) (heap : List HObj) : St :=
  { tmps := [.ptr id 0 0, .undef, .undef, .sl 4 (encTys acc) own, .ptr id 0 0, .bool false, .undef, .undef, .undef, .undef, .undef, .undef], loc := [none, none, none, none, none, none, none, none, none, none, none, none], live := live, tk := tk, defers := [], pan := none, recd := false, heap := heap }

def LPost (l : List Tok) (d : Int) (id : Nat) (heap : List HObj) (a b : Int) (acc : List Ty) (x : Option (Ex × St)) : PRs → Prop
  | .ok j ts => ∃ own live tk, x = some (.brk 0, E115 id (acc ++ ts) own live tk (heap.set id (rd l j d 0 a b)))
  | .fail p q => ∃ own live tk, ∃ (j : Nat) (ts : List Ty), x = some (.brk 0, E115 id ts own live tk (heap.set id (rd l j d 1 p q)))

theorem LPost.step {l : List Tok} {d : Int} {id : Nat} {heap : List HObj} {a b : Int} {acc : List Ty} {x : Option (Ex × St)} {X : HObj} {t : Ty} {r : PRs} (h : LPost l d id (heap.set id X) a b (acc ++ [t]) x r) : LPost l d id heap a b acc x (consR t r) := by
  cases r with
  | fail p q =>
    obtain ⟨o1, o2, o3, o4, o5, h5⟩ := h
    simp only [List.set_set] at h5
    exact ⟨o1, o2, o3, o4, o5, h5⟩
  | ok k ts =>
    obtain ⟨o1, o2, o3, h5⟩ := h
    simp only [List.set_set, List.append_assoc, List.singleton_append] at h5
    exact ⟨o1, o2, o3, h5⟩

def PLoop (l : List Tok) (i d : Nat) (r : PRs) : Prop := ∀ id heap a b acc own live tk s, heap[id]? = some (rd l i d 0 a b) → roomy live own = true → unlive live own = [] → acc.length ≤ i →
  strays [0, 3] s.loc (clr [0, 3] .undef 0 s.tmps) = false → s.clear [0, 3] = C115 id acc own live tk heap → LPost l d id heap a b acc (runL noPr tab [0, 3] (.loop B115_0) s) r

variable {id : Nat} {heap : List HObj} {l : List Tok} {i d : Nat} {a b : Int}

theorem loop_end (hl : l.length < 2 ^ 30) (h1 : startsT l i = false) : PLoop l i d (.ok i []) := by
  intro id heap a b acc own live tk s h hr hu ha hs hc
  refine ⟨own, live, tk, ?_⟩
  rw [runL_loop_at hs hc]
  have e1 := starts_eq0 h (by omega)
  rw [h1] at e1
  have e2 := set_self h
  simp only [go_sem, ↓reduceIte, ↓reduceDIte, Nat.reduceAdd, Nat.reduceSub, Nat.reduceMul, Nat.reduceLeDiff, Nat.reduceLT, Nat.reduceEqDiff, Nat.reduceBEq, Int.reduceEq, Int.reduceBEq, Int.reduceLT, Int.reduceLE, Int.reduceNeg, Int.reduceToNat, reduceCtorEq, rB115_0, B115_0b, C115, E115, e1, e2]

theorem loop_bad {acc : List Ty} {own : Own} {live : List Nat} {tk : Nat} {s : St} {d : Int} (hl : l.length < 2 ^ 30) (h : heap[id]? = some (rd l i d 1 a b))
    (hs : strays [0, 3] s.loc (clr [0, 3] .undef 0 s.tmps) = false) (hc : s.clear [0, 3] = C115 id acc own live tk heap) :
    runL noPr tab [0, 3] (.loop B115_0) s = some (.brk 0, E115 id acc own live tk heap) := by
  rw [runL_loop_at hs hc]
  have e1 := starts_eq1 h (by omega)
  simp only [go_sem, ↓reduceIte, ↓reduceDIte, Nat.reduceAdd, Nat.reduceSub, Nat.reduceMul, Nat.reduceLeDiff, Nat.reduceLT, Nat.reduceEqDiff, Nat.reduceBEq, Int.reduceEq, Int.reduceBEq, Int.reduceLT, Int.reduceLE, Int.reduceNeg, Int.reduceToNat, reduceCtorEq, rB115_0, B115_0b, C115, E115, e1]

theorem loop_fail {x y : Int} (hl : l.length < 2 ^ 30) (hi : i ≤ l.length) (h1 : startsT l i = true) (hA : PAtom l i d (.fail x y)) : PLoop l i d (.fail x y) := by
  intro id heap a b acc own live tk s h hr hu ha hs hc
  obtain ⟨j, t, e3⟩ := hA id heap a b h
  have e1 := starts_eq0 h (by omega)
  rw [h1] at e1
  have e2 : acc.length + 1 ≤ 17179869184 := by omega
  have g1 := getElem?_set_hit (x := rd l j d 1 x y) h
  obtain ⟨k0, n0, q0, a0⟩ := t
  show ∃ own live tk, ∃ (j : Nat) (ts : List Ty), _
  rw [runL_loop_at hs hc]
  simp only [encTy] at e3
  simp only [go_sem, ↓reduceIte, ↓reduceDIte, Nat.reduceAdd, Nat.reduceSub, Nat.reduceMul, Nat.reduceLeDiff, Nat.reduceLT, Nat.reduceEqDiff, Nat.reduceBEq, Int.reduceEq, Int.reduceBEq, Int.reduceLT, Int.reduceLE, Int.reduceNeg, Int.reduceToNat, reduceCtorEq, rB115_0, B115_0b, C115, e1, e3, hr, hu, Go.PM.maxLen, List.length_append, encTys_len, e2]
  exact ⟨.tok tk, [tk], tk + 1, j, acc ++ [.mk k0 n0 q0 a0], loop_bad hl g1 rfl (by simp only [go_sem, ↓reduceIte, ↓reduceDIte, Nat.reduceAdd, Nat.reduceSub, Nat.reduceMul, Nat.reduceLeDiff, Nat.reduceLT, Nat.reduceEqDiff, Nat.reduceBEq, Int.reduceEq, Int.reduceBEq, Int.reduceLT, Int.reduceLE, Int.reduceNeg, Int.reduceToNat, reduceCtorEq, C115, encTys_append, encTys, encTy])⟩

theorem loop_more {j : Nat} {t : Ty} {r : PRs} (hl : l.length < 2 ^ 30) (hi : i ≤ l.length) (h1 : startsT l i = true) (hA : PAtom l i d (.ok j t)) (hj : i < j) (hL : PLoop l j d r) : PLoop l i d (consR t r) := by
  intro id heap a b acc own live tk s h hr hu ha hs hc
  have e3 : callL _ _ _ _ _ = _ := hA id heap a b h
  have e1 := starts_eq0 h (by omega)
  rw [h1] at e1
  have e2 : acc.length + 1 ≤ 17179869184 := by omega
  have g1 := getElem?_set_hit (x := rd l j d 0 a b) h
  have key : ∀ s', strays [0, 3] s'.loc (clr [0, 3] .undef 0 s'.tmps) = false → s'.clear [0, 3] = C115 id (acc ++ [t]) (.tok tk) [tk] (tk + 1) (heap.set id (rd l j d 0 a b)) → LPost l d id (heap.set id (rd l j d 0 a b)) a b (acc ++ [t]) (runL noPr tab [0, 3] (.loop B115_0) s') r :=
    fun s' h1 h2 => hL id _ a b (acc ++ [t]) (.tok tk) [tk] (tk + 1) s' g1 (by simp only [go_sem, ↓reduceIte, ↓reduceDIte, Nat.reduceAdd, Nat.reduceSub, Nat.reduceMul, Nat.reduceLeDiff, Nat.reduceLT, Nat.reduceEqDiff, Nat.reduceBEq, Int.reduceEq, Int.reduceBEq, Int.reduceLT, Int.reduceLE, Int.reduceNeg, Int.reduceToNat, reduceCtorEq, List.elem_cons]) (by simp [unlive]) (by simp; omega) h1 h2
  obtain ⟨k0, n0, q0, a0⟩ := t
  simp only [encTy] at e3
  rw [runL_loop_at hs hc]
  simp only [go_sem, ↓reduceIte, ↓reduceDIte, Nat.reduceAdd, Nat.reduceSub, Nat.reduceMul, Nat.reduceLeDiff, Nat.reduceLT, Nat.reduceEqDiff, Nat.reduceBEq, Int.reduceEq, Int.reduceBEq, Int.reduceLT, Int.reduceLE, Int.reduceNeg, Int.reduceToNat, reduceCtorEq, rB115_0, B115_0b, C115, e1, e3, hr, hu, Go.PM.maxLen, List.length_append, encTys_len, e2]
  refine LPost.step (key _ ?_ ?_)
  · rfl
  · simp only [go_sem, ↓reduceIte, ↓reduceDIte, Nat.reduceAdd, Nat.reduceSub, Nat.reduceMul, Nat.reduceLeDiff, Nat.reduceLT, Nat.reduceEqDiff, Nat.reduceBEq, Int.reduceEq, Int.reduceBEq, Int.reduceLT, Int.reduceLE, Int.reduceNeg, Int.reduceToNat, reduceCtorEq, C115, encTys_append, encTys, encTy]

theorem atoms_of {r : PRs} (hL : PLoop l i d r) : PAtoms l i d r := by
  intro id heap a b h
  have key : ∀ s', strays [0, 3] s'.loc (clr [0, 3] .undef 0 s'.tmps) = false → s'.clear [0, 3] = C115 id [] .exact [] 1 heap → LPost l d id heap a b [] (runL noPr tab [0, 3] (.loop B115_0) s') r :=
    fun s' h1 h2 => hL id _ a b [] .exact [] 1 s' h rfl rfl (by simp) h1 h2
  cases r with
  | fail x y =>
    obtain ⟨o1, o2, o3, o4, o5, h5⟩ := key { tmps := [.ptr id 0 0, .undef, .sl 4 [] .exact, .sl 4 [] .exact, .undef, .undef, .undef, .undef, .undef, .undef, .undef, .undef], loc := [none, none, none, none, none, none, none, none, none, none, none, none], live := [], tk := 1, defers := [], pan := none, recd := false, heap := heap } rfl rfl
    refine ⟨o4, o5, ?_⟩
    rw [callL_fn rfl rfl]
    simp only [go_sem, ↓reduceIte, ↓reduceDIte, Nat.reduceAdd, Nat.reduceSub, Nat.reduceMul, Nat.reduceLeDiff, Nat.reduceLT, Nat.reduceEqDiff, Nat.reduceBEq, Int.reduceEq, Int.reduceBEq, Int.reduceLT, Int.reduceLE, Int.reduceNeg, Int.reduceToNat, reduceCtorEq, F115, h5, E115]
  | ok k ts =>
    obtain ⟨o1, o2, o3, h5⟩ := key { tmps := [.ptr id 0 0, .undef, .sl 4 [] .exact, .sl 4 [] .exact, .undef, .undef, .undef, .undef, .undef, .undef, .undef, .undef], loc := [none, none, none, none, none, none, none, none, none, none, none, none], live := [], tk := 1, defers := [], pan := none, recd := false, heap := heap } rfl rfl
    show callL _ _ _ _ _ = _
    rw [callL_fn rfl rfl]
    simp only [go_sem, ↓reduceIte, ↓reduceDIte, Nat.reduceAdd, Nat.reduceSub, Nat.reduceMul, Nat.reduceLeDiff, Nat.reduceLT, Nat.reduceEqDiff, Nat.reduceBEq, Int.reduceEq, Int.reduceBEq, Int.reduceLT, Int.reduceLE, Int.reduceNeg, Int.reduceToNat, reduceCtorEq, F115, h5, E115]

end Go.Proofs.Ytgaleaihhhdlgaa.MT

/- The document's reader of types. -/
namespace Go.Proofs.Ytgaleaihhhdlgaa.MT
open Go.PM Go.Proofs.Ytgaleaihhhdlgaa.Pm

def rv (l : List Tok) (i : Nat) (d : Int) (bad : Bool) (a b : Int) : List AV := [.sl 5 (l.map encTok) .none, .int .i64 i, .int .i64 d, .bool bad, .int .i64 a, .int .i64 b]

variable {heap : List HObj} {l : List Tok} {i : Nat} {d a b : Int} {bad : Bool}

theorem rnow_eq (hl : l.length < 2 ^ 60) : callL noPr tab 63 [.agg (rv l i d bad a b)] heap = some (.ret (.agg (encTok (nowT l i))), heap) := by
  rw [callL_fn rfl rfl]
  cases hi : l[i]? with
  | some t =>
    have h1 : decide ((i : Int) < (l.length : Int)) = true := by
      have := (List.getElem?_eq_some_iff.1 hi).1
      simp; omega
    simp only [go_sem, ↓reduceIte, ↓reduceDIte, Nat.reduceAdd, Nat.reduceSub, Nat.reduceMul, Nat.reduceLeDiff, Nat.reduceLT, Nat.reduceEqDiff, Nat.reduceBEq, Int.reduceEq, Int.reduceBEq, Int.reduceLT, Int.reduceLE, Int.reduceNeg, Int.reduceToNat, reduceCtorEq, F63, rv, h1, hi, encTok, nowT]
  | none =>
    have h1 : decide ((i : Int) < (l.length : Int)) = false := by
      have := List.getElem?_eq_none_iff.1 hi
      simp; omega
    cases hg : l.getLast? with
    | none =>
      have h2 : decide ((l.length : Int) > 0) = false := by
        have : l = [] := by simpa using hg
        subst this; rfl
      simp only [go_sem, ↓reduceIte, ↓reduceDIte, Nat.reduceAdd, Nat.reduceSub, Nat.reduceMul, Nat.reduceLeDiff, Nat.reduceLT, Nat.reduceEqDiff, Nat.reduceBEq, Int.reduceEq, Int.reduceBEq, Int.reduceLT, Int.reduceLE, Int.reduceNeg, Int.reduceToNat, reduceCtorEq, F63, rv, h1, h2, hi, hg, encTok, nowT, endT]
    | some t =>
      have h0 : 0 < l.length := by
        cases l with
        | nil => simp at hg
        | cons x r => simp
      have h2 : decide ((l.length : Int) > 0) = true := by simp; omega
      have h3 : IntKind.i64.wrap ((l.length : Int) - 1) = ((l.length - 1 : Nat) : Int) := by
        rw [wrap_nat (by omega) (by omega)]; omega
      have h4 : l[l.length - 1]? = some t := by rw [← hg, List.getLast?_eq_getElem?]
      simp only [go_sem, ↓reduceIte, ↓reduceDIte, Nat.reduceAdd, Nat.reduceSub, Nat.reduceMul, Nat.reduceLeDiff, Nat.reduceLT, Nat.reduceEqDiff, Nat.reduceBEq, Int.reduceEq, Int.reduceBEq, Int.reduceLT, Int.reduceLE, Int.reduceNeg, Int.reduceToNat, reduceCtorEq, F63, rv, h1, h2, h3, h4, hi, hg, encTok, nowT, endT]

theorem ris_eq0 {k : Int} {s : List UInt8} (hl : l.length < 2 ^ 60) :
    callL noPr tab 65 [.agg (rv l i d false a b), .int .i64 k, .str s] heap = some (.ret (.bool (isT l i k s)), heap) := by
  rw [callL_fn rfl rfl]
  have h1 := rnow_eq (heap := heap) (i := i) (d := d) (a := a) (b := b) (bad := false) hl
  simp only [rv] at *
  cases h3 : ((nowT l i).kind == k) <;> simp only [go_sem, ↓reduceIte, ↓reduceDIte, Nat.reduceAdd, Nat.reduceSub, Nat.reduceMul, Nat.reduceLeDiff, Nat.reduceLT, Nat.reduceEqDiff, Nat.reduceBEq, Int.reduceEq, Int.reduceBEq, Int.reduceLT, Int.reduceLE, Int.reduceNeg, Int.reduceToNat, reduceCtorEq, F65, h1, h3, encTok, isT, BEq.rfl]

theorem ris_eq1 {k : Int} {s : List UInt8} :
    callL noPr tab 65 [.agg (rv l i d true a b), .int .i64 k, .str s] heap = some (.ret (.bool false), heap) := by
  rw [callL_fn rfl rfl]
  simp only [rv] at *
  simp only [go_sem, ↓reduceIte, ↓reduceDIte, Nat.reduceAdd, Nat.reduceSub, Nat.reduceMul, Nat.reduceLeDiff, Nat.reduceLT, Nat.reduceEqDiff, Nat.reduceBEq, Int.reduceEq, Int.reduceBEq, Int.reduceLT, Int.reduceLE, Int.reduceNeg, Int.reduceToNat, reduceCtorEq, F65, BEq.rfl]

theorem rfail_eq0 (hl : l.length < 2 ^ 60) :
    callL noPr tab 87 [.agg (rv l i d false a b)] heap = some (.ret (.agg (rv l i d true (nowT l i).line (nowT l i).col)), heap) := by
  rw [callL_fn rfl rfl]
  have h1 := rnow_eq (heap := heap) (i := i) (d := d) (a := a) (b := b) (bad := false) hl
  simp only [rv] at *
  simp only [go_sem, ↓reduceIte, ↓reduceDIte, Nat.reduceAdd, Nat.reduceSub, Nat.reduceMul, Nat.reduceLeDiff, Nat.reduceLT, Nat.reduceEqDiff, Nat.reduceBEq, Int.reduceEq, Int.reduceBEq, Int.reduceLT, Int.reduceLE, Int.reduceNeg, Int.reduceToNat, reduceCtorEq, F87, h1, encTok]

theorem rfail_eq1 : callL noPr tab 87 [.agg (rv l i d true a b)] heap = some (.ret (.agg (rv l i d true a b)), heap) := by
  rw [callL_fn rfl rfl]
  simp only [rv] at *
  simp only [go_sem, ↓reduceIte, ↓reduceDIte, Nat.reduceAdd, Nat.reduceSub, Nat.reduceMul, Nat.reduceLeDiff, Nat.reduceLT, Nat.reduceEqDiff, Nat.reduceBEq, Int.reduceEq, Int.reduceBEq, Int.reduceLT, Int.reduceLE, Int.reduceNeg, Int.reduceToNat, reduceCtorEq, F87]

theorem rtake_no {k : Int} {s : List UInt8} (hl : l.length < 2 ^ 60) (hn : isT l i k s = false) :
    callL noPr tab 64 [.agg (rv l i d false a b), .int .i64 k, .str s] heap = some (.ret (.agg (rv l i d true (nowT l i).line (nowT l i).col)), heap) := by
  rw [callL_fn rfl rfl]
  have h1 := ris_eq0 (heap := heap) (i := i) (d := d) (a := a) (b := b) (k := k) (s := s) hl
  have h2 := rfail_eq0 (heap := heap) (i := i) (d := d) (a := a) (b := b) hl
  rw [hn] at h1
  simp only [rv] at *
  simp only [go_sem, ↓reduceIte, ↓reduceDIte, Nat.reduceAdd, Nat.reduceSub, Nat.reduceMul, Nat.reduceLeDiff, Nat.reduceLT, Nat.reduceEqDiff, Nat.reduceBEq, Int.reduceEq, Int.reduceBEq, Int.reduceLT, Int.reduceLE, Int.reduceNeg, Int.reduceToNat, reduceCtorEq, F64, h1, h2]

theorem rtake_bad {k : Int} {s : List UInt8} :
    callL noPr tab 64 [.agg (rv l i d true a b), .int .i64 k, .str s] heap = some (.ret (.agg (rv l i d true a b)), heap) := by
  rw [callL_fn rfl rfl]
  have h1 := ris_eq1 (heap := heap) (i := i) (d := d) (a := a) (b := b) (k := k) (s := s) (l := l)
  have h2 := rfail_eq1 (heap := heap) (i := i) (d := d) (a := a) (b := b) (l := l)
  simp only [rv] at *
  simp only [go_sem, ↓reduceIte, ↓reduceDIte, Nat.reduceAdd, Nat.reduceSub, Nat.reduceMul, Nat.reduceLeDiff, Nat.reduceLT, Nat.reduceEqDiff, Nat.reduceBEq, Int.reduceEq, Int.reduceBEq, Int.reduceLT, Int.reduceLE, Int.reduceNeg, Int.reduceToNat, reduceCtorEq, F64, h1, h2]

theorem rtake_yes {k : Int} {s : List UInt8} (hl : l.length < 2 ^ 60) (hk : k ≠ -1) (hn : isT l i k s = true) :
    callL noPr tab 64 [.agg (rv l i d false a b), .int .i64 k, .str s] heap = some (.ret (.agg (rv l (i + 1) d false a b)), heap) := by
  rw [callL_fn rfl rfl]
  have h1 := ris_eq0 (heap := heap) (i := i) (d := d) (a := a) (b := b) (k := k) (s := s) hl
  have h3 := up (n := i) (by have := isT_lt hk hn; omega)
  rw [hn] at h1
  simp only [rv] at *
  simp only [go_sem, ↓reduceIte, ↓reduceDIte, Nat.reduceAdd, Nat.reduceSub, Nat.reduceMul, Nat.reduceLeDiff, Nat.reduceLT, Nat.reduceEqDiff, Nat.reduceBEq, Int.reduceEq, Int.reduceBEq, Int.reduceLT, Int.reduceLE, Int.reduceNeg, Int.reduceToNat, reduceCtorEq, F64, h1, h3]

theorem rdown_deep (hl : l.length < 2 ^ 60) : callL noPr tab 118 [.agg (rv l i 40 false a b)] heap = some (.ret (.agg (rv l i 40 true (nowT l i).line (nowT l i).col)), heap) := by
  rw [callL_fn rfl rfl]
  have h2 := rfail_eq0 (heap := heap) (i := i) (d := 40) (a := a) (b := b) hl
  have w1 : decide ((40 : Int) ≥ 40) = true := rfl
  simp only [rv] at *
  simp only [go_sem, ↓reduceIte, ↓reduceDIte, Nat.reduceAdd, Nat.reduceSub, Nat.reduceMul, Nat.reduceLeDiff, Nat.reduceLT, Nat.reduceEqDiff, Nat.reduceBEq, Int.reduceEq, Int.reduceBEq, Int.reduceLT, Int.reduceLE, Int.reduceNeg, Int.reduceToNat, reduceCtorEq, F118, h2, w1]

theorem rdown {d : Nat} (hd : d < 40) (hi : i < l.length) (hl : l.length < 2 ^ 60) : callL noPr tab 118 [.agg (rv l i d false a b)] heap = some (.ret (.agg (rv l (i + 1) ((d + 1 : Nat) : Int) false a b)), heap) := by
  rw [callL_fn rfl rfl]
  have w1 : decide ((d : Int) ≥ 40) = false := by simp; omega
  have w2 := dup (d := d) (by omega)
  have w3 := up (n := i) (by omega)
  simp only [rv] at *
  simp only [go_sem, ↓reduceIte, ↓reduceDIte, Nat.reduceAdd, Nat.reduceSub, Nat.reduceMul, Nat.reduceLeDiff, Nat.reduceLT, Nat.reduceEqDiff, Nat.reduceBEq, Int.reduceEq, Int.reduceBEq, Int.reduceLT, Int.reduceLE, Int.reduceNeg, Int.reduceToNat, reduceCtorEq, F118, w1, w2, w3]

end Go.Proofs.Ytgaleaihhhdlgaa.MT

/- The document's types, read from tokens. -/
namespace Go.Proofs.Ytgaleaihhhdlgaa.MT
open Go.PM Go.Proofs.Ytgaleaihhhdlgaa.Pm

def RPost (l : List Tok) (d : Int) (at_ : Bool) (i : Nat) (heap : List HObj) (a b : Int) : PR → Prop
  | .ok j t => callL noPr tab 59 [.agg (rv l i d false a b), .bool at_] heap = some (.ret (.tup [.agg (rv l j d false a b), .agg (encTy t)]), heap)
  | .fail x y => ∃ (j : Nat) (d' : Int) (t : Ty), callL noPr tab 59 [.agg (rv l i d false a b), .bool at_] heap = some (.ret (.tup [.agg (rv l j d' true x y), .agg (encTy t)]), heap)

def RTyp (l : List Tok) (i d : Nat) (at_ : Bool) (r : PR) : Prop := ∀ heap a b, RPost l d at_ i heap a b r

def RPosts (l : List Tok) (d : Int) (i : Nat) (heap : List HObj) (a b : Int) : PRs → Prop
  | .ok j ts => callL noPr tab 117 [.agg (rv l i d false a b)] heap = some (.ret (.tup [.agg (rv l j d false a b), .sl 4 (encTys ts) .none]), heap)
  | .fail x y => ∃ (j : Nat) (d' : Int) (ts : List Ty), callL noPr tab 117 [.agg (rv l i d false a b)] heap = some (.ret (.tup [.agg (rv l j d' true x y), .sl 4 (encTys ts) .none]), heap)

def RTypes (l : List Tok) (i d : Nat) (r : PRs) : Prop := ∀ heap a b, RPosts l d i heap a b r

variable {heap : List HObj} {l : List Tok} {i d : Nat} {a b : Int} {at_ : Bool}

theorem rtyp_bad {d : Int} (hl : l.length < 2 ^ 60) : callL noPr tab 59 [.agg (rv l i d true a b), .bool at_] heap = some (.ret (.tup [.agg (rv l i d true a b), .agg (encTy zeroTy)]), heap) := by
  rw [callL_fn rfl rfl]
  have h1 := rnow_eq (heap := heap) (i := i) (d := d) (a := a) (b := b) (bad := true) hl
  simp only [rv, encTok] at *
  simp only [go_sem, ↓reduceIte, ↓reduceDIte, Nat.reduceAdd, Nat.reduceSub, Nat.reduceMul, Nat.reduceLeDiff, Nat.reduceLT, Nat.reduceEqDiff, Nat.reduceBEq, Int.reduceEq, Int.reduceBEq, Int.reduceLT, Int.reduceLE, Int.reduceNeg, Int.reduceToNat, reduceCtorEq, F59, h1, encTy, encTys, zeroTy]

theorem rtyp_low (hl : l.length < 2 ^ 60) (hk : (nowT l i).kind = 2) : RTyp l i d at_ (.ok (i + 1) (.mk 1 (nowT l i).text 0 [])) := by
  intro heap a b
  show callL _ _ _ _ _ = _
  rw [callL_fn rfl rfl]
  have h1 := rnow_eq (heap := heap) (i := i) (d := d) (a := a) (b := b) (bad := false) hl
  have h3 := up (n := i) (by have := kind_lt (k := 2) (by decide) hk; omega)
  simp only [rv, encTok, hk] at *
  simp only [go_sem, ↓reduceIte, ↓reduceDIte, Nat.reduceAdd, Nat.reduceSub, Nat.reduceMul, Nat.reduceLeDiff, Nat.reduceLT, Nat.reduceEqDiff, Nat.reduceBEq, Int.reduceEq, Int.reduceBEq, Int.reduceLT, Int.reduceLE, Int.reduceNeg, Int.reduceToNat, reduceCtorEq, F59, h1, h3, encTy, encTys]

theorem rtyp_up (hl : l.length < 2 ^ 60) (hk : (nowT l i).kind = 3) : RTyp l i d true (.ok (i + 1) (.mk 2 (nowT l i).text 0 [])) := by
  intro heap a b
  show callL _ _ _ _ _ = _
  rw [callL_fn rfl rfl]
  have h1 := rnow_eq (heap := heap) (i := i) (d := d) (a := a) (b := b) (bad := false) hl
  have h3 := up (n := i) (by have := kind_lt (k := 3) (by decide) hk; omega)
  simp only [rv, encTok, hk] at *
  simp only [go_sem, ↓reduceIte, ↓reduceDIte, Nat.reduceAdd, Nat.reduceSub, Nat.reduceMul, Nat.reduceLeDiff, Nat.reduceLT, Nat.reduceEqDiff, Nat.reduceBEq, Int.reduceEq, Int.reduceBEq, Int.reduceLT, Int.reduceLE, Int.reduceNeg, Int.reduceToNat, reduceCtorEq, F59, h1, h3, encTy, encTys]

theorem rtyp_con (hl : l.length < 2 ^ 60) (hk : (nowT l i).kind = 3) {r : PRs} (hr : RTypes l (i + 1) d r) : RTyp l i d false (conR (nowT l i).text r) := by
  intro heap a b
  have h1 := rnow_eq (heap := heap) (i := i) (d := d) (a := a) (b := b) (bad := false) hl
  have h3 := up (n := i) (by have := kind_lt (k := 3) (by decide) hk; omega)
  have h2 := hr heap a b
  cases r with
  | fail x y =>
    obtain ⟨j, d', ts, h2⟩ := h2
    refine ⟨j, d', .mk 2 (nowT l i).text 0 ts, ?_⟩
    rw [callL_fn rfl rfl]
    simp only [rv, encTok, hk] at *
    simp only [go_sem, ↓reduceIte, ↓reduceDIte, Nat.reduceAdd, Nat.reduceSub, Nat.reduceMul, Nat.reduceLeDiff, Nat.reduceLT, Nat.reduceEqDiff, Nat.reduceBEq, Int.reduceEq, Int.reduceBEq, Int.reduceLT, Int.reduceLE, Int.reduceNeg, Int.reduceToNat, reduceCtorEq, F59, h1, h2, h3, encTy, encTys]
  | ok j ts =>
    have h2 : callL _ _ _ _ _ = _ := h2
    show callL _ _ _ _ _ = _
    rw [callL_fn rfl rfl]
    simp only [rv, encTok, hk] at *
    simp only [go_sem, ↓reduceIte, ↓reduceDIte, Nat.reduceAdd, Nat.reduceSub, Nat.reduceMul, Nat.reduceLeDiff, Nat.reduceLT, Nat.reduceEqDiff, Nat.reduceBEq, Int.reduceEq, Int.reduceBEq, Int.reduceLT, Int.reduceLE, Int.reduceNeg, Int.reduceToNat, reduceCtorEq, F59, h1, h2, h3, encTy, encTys]

theorem rtyp_not (hl : l.length < 2 ^ 60) (h2 : ((nowT l i).kind == 2) = false) (h3 : ((nowT l i).kind == 3) = false) (h4 : isT l i 6 [40] = false) : RTyp l i d at_ (.fail (nowT l i).line (nowT l i).col) := by
  intro heap a b
  refine ⟨i, d, zeroTy, ?_⟩
  have e1 := rnow_eq (heap := heap) (i := i) (d := d) (a := a) (b := b) (bad := false) hl
  have e2 := ris_eq0 (heap := heap) (i := i) (d := d) (a := a) (b := b) (k := 6) (s := [40]) hl
  have e3 := rfail_eq0 (heap := heap) (i := i) (d := d) (a := a) (b := b) hl
  rw [h4] at e2
  rw [callL_fn rfl rfl]
  simp only [rv, encTok] at *
  simp only [go_sem, ↓reduceIte, ↓reduceDIte, Nat.reduceAdd, Nat.reduceSub, Nat.reduceMul, Nat.reduceLeDiff, Nat.reduceLT, Nat.reduceEqDiff, Nat.reduceBEq, Int.reduceEq, Int.reduceBEq, Int.reduceLT, Int.reduceLE, Int.reduceNeg, Int.reduceToNat, reduceCtorEq, F59, e1, e2, e3, h2, h3, encTy, encTys, zeroTy]

theorem rtyp_deep (hl : l.length < 2 ^ 60) (h2 : ((nowT l i).kind == 2) = false) (h3 : ((nowT l i).kind == 3) = false) (h4 : isT l i 6 [40] = true) : RTyp l i 40 at_ (.fail (nowT l i).line (nowT l i).col) := by
  intro heap a b
  refine ⟨i, 40, zeroTy, ?_⟩
  have e1 := rnow_eq (heap := heap) (i := i) (d := 40) (a := a) (b := b) (bad := false) hl
  have e2 := ris_eq0 (heap := heap) (i := i) (d := 40) (a := a) (b := b) (k := 6) (s := [40]) hl
  have e3 := rdown_deep (heap := heap) (i := i) (a := a) (b := b) hl
  have e4 := rtyp_bad (heap := heap) (i := i) (d := 40) (a := (nowT l i).line) (b := (nowT l i).col) (at_ := false) hl
  have e5 := rtake_bad (heap := heap) (i := i) (d := 40) (a := (nowT l i).line) (b := (nowT l i).col) (k := 6) (s := [41]) (l := l)
  rw [h4] at e2
  rw [callL_fn rfl rfl]
  simp only [rv, encTok, encTy, encTys, zeroTy, Int.cast_ofNat_Int] at *
  simp only [go_sem, ↓reduceIte, ↓reduceDIte, Nat.reduceAdd, Nat.reduceSub, Nat.reduceMul, Nat.reduceLeDiff, Nat.reduceLT, Nat.reduceEqDiff, Nat.reduceBEq, Int.reduceEq, Int.reduceBEq, Int.reduceLT, Int.reduceLE, Int.reduceNeg, Int.reduceToNat, reduceCtorEq, F59, e1, e2, e3, e4, e5, h2, h3]

theorem rtyp_paren (hl : l.length < 2 ^ 60) (hd : d < 40) (h2 : ((nowT l i).kind == 2) = false) (h3 : ((nowT l i).kind == 3) = false) (h4 : isT l i 6 [40] = true) {r : PR} (hr : RTyp l (i + 1) (d + 1) false r) : RTyp l i d at_ (closeR l r) := by
  intro heap a b
  have e1 := rnow_eq (heap := heap) (i := i) (d := d) (a := a) (b := b) (bad := false) hl
  have e2 := ris_eq0 (heap := heap) (i := i) (d := d) (a := a) (b := b) (k := 6) (s := [40]) hl
  have e3 := rdown (heap := heap) (i := i) (a := a) (b := b) (l := l) hd (isT_lt (by decide) h4) hl
  have e4 := hr heap a b
  rw [h4] at e2
  cases r with
  | fail x y =>
    obtain ⟨j, d', t, e4⟩ := e4
    have e5 := rtake_bad (heap := heap) (i := j) (d := d') (a := x) (b := y) (k := 6) (s := [41]) (l := l)
    refine ⟨j, d, t, ?_⟩
    cases t
    rw [callL_fn rfl rfl]
    simp only [rv, encTok, encTy] at *
    simp only [go_sem, ↓reduceIte, ↓reduceDIte, Nat.reduceAdd, Nat.reduceSub, Nat.reduceMul, Nat.reduceLeDiff, Nat.reduceLT, Nat.reduceEqDiff, Nat.reduceBEq, Int.reduceEq, Int.reduceBEq, Int.reduceLT, Int.reduceLE, Int.reduceNeg, Int.reduceToNat, reduceCtorEq, F59, e1, e2, e3, e4, e5, h2, h3]
  | ok j t =>
    have e4 : callL _ _ _ _ _ = _ := e4
    cases hj : isT l j 6 [41] with
    | true =>
      have e5 := rtake_yes (heap := heap) (d := ((d + 1 : Nat) : Int)) (a := a) (b := b) (k := 6) (s := [41]) hl (by decide) hj
      simp only [closeR, hj, if_true]
      show callL _ _ _ _ _ = _
      cases t
      rw [callL_fn rfl rfl]
      simp only [rv, encTok, encTy] at *
      simp only [go_sem, ↓reduceIte, ↓reduceDIte, Nat.reduceAdd, Nat.reduceSub, Nat.reduceMul, Nat.reduceLeDiff, Nat.reduceLT, Nat.reduceEqDiff, Nat.reduceBEq, Int.reduceEq, Int.reduceBEq, Int.reduceLT, Int.reduceLE, Int.reduceNeg, Int.reduceToNat, reduceCtorEq, F59, e1, e2, e3, e4, e5, h2, h3]
    | false =>
      have e5 := rtake_no (heap := heap) (d := ((d + 1 : Nat) : Int)) (a := a) (b := b) (k := 6) (s := [41]) hl hj
      simp only [closeR, hj, if_false, Bool.false_eq_true]
      refine ⟨j, d, t, ?_⟩
      cases t
      rw [callL_fn rfl rfl]
      simp only [rv, encTok, encTy] at *
      simp only [go_sem, ↓reduceIte, ↓reduceDIte, Nat.reduceAdd, Nat.reduceSub, Nat.reduceMul, Nat.reduceLeDiff, Nat.reduceLT, Nat.reduceEqDiff, Nat.reduceBEq, Int.reduceEq, Int.reduceBEq, Int.reduceLT, Int.reduceLE, Int.reduceNeg, Int.reduceToNat, reduceCtorEq, F59, e1, e2, e3, e4, e5, h2, h3]

end Go.Proofs.Ytgaleaihhhdlgaa.MT
