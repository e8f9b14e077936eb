/- The document's types, a loop; both readers answer alike. -/
import Derived.Test.YtgaleaihhhdlgaaMta

set_option linter.unusedVariables false
set_option linter.unusedSimpArgs false

namespace Go.Proofs.Ytgaleaihhhdlgaa.MT
open Go.PM Go.Proofs.Ytgaleaihhhdlgaa.Pm

def zrv : List AV := [.sl 5 [] .exact, .int .i64 0, .int .i64 0, .bool false, .int .i64 0, .int .i64 0]

def C117 (l : List Tok) (i : Nat) (d : Int) (bad : Bool) (a b : Int) (acc : List Ty) (own : Own) (live : List Nat) (tk : Nat) (heap : List HObj) : St :=
  { tmps := [.undef, .lref 1 0, .lref 2 0, .undef, .sl 4 (encTys acc) own] ++ List.replicate 33 .undef, loc := [none, some (rv l i d bad a b), some zrv] ++ List.replicate 35 none, live := live, tk := tk, defers := [], pan := none, recd := false, heap := heap }

def RLPost (l : List Tok) (d : Int) (heap : List HObj) (a b : Int) (acc : List Ty) (x : Option (Ex × St)) : PRs → Prop
  | .ok j ts => ∃ own live tk J K, x = some (.brk 0, (C117 l j d false a b (acc ++ ts) own live tk heap).junk [1, 2, 4] J K)
  | .fail p q => ∃ (j : Nat) (d' : Int) (ts : List Ty), ∃ own live tk J K, x = some (.brk 0, (C117 l j d' true p q ts own live tk heap).junk [1, 2, 4] J K)

theorem RLPost.step {l : List Tok} {d : Int} {heap : List HObj} {a b : Int} {acc : List Ty} {x : Option (Ex × St)} {t : Ty} {r : PRs} (h : RLPost l d heap a b (acc ++ [t]) x r) : RLPost l d heap a b acc x (consR t r) := by
  cases r with
  | fail p q => exact h
  | ok k ts =>
    obtain ⟨o1, o2, o3, o4, o5, h5⟩ := h
    simp only [List.append_assoc, List.singleton_append] at h5
    exact ⟨o1, o2, o3, o4, o5, h5⟩

def RLoop (l : List Tok) (i d : Nat) (r : PRs) : Prop := ∀ heap a b acc own live tk s, roomy live own = true → unlive live own = [] → acc.length ≤ i →
  strays [1, 2, 4] s.loc (clr [1, 2, 4] .undef 0 s.tmps) = false → s.clear [1, 2, 4] = C117 l i d false a b acc own live tk heap → RLPost l d heap a b acc (runL noPr tab [1, 2, 4] (.loop B117_0) s) r

variable {heap : List HObj} {l : List Tok} {i d : Nat} {a b : Int}

theorem rstarts (hn : startsT l i = false) : ((nowT l i).kind == 2) = false ∧ ((nowT l i).kind == 3) = false ∧ isT l i 6 [40] = false := by
  unfold startsT at hn
  simpa using hn

theorem rloop_end (hl : l.length < 2 ^ 30) (h1 : startsT l i = false) : RLoop l i d (.ok i []) := by
  intro heap a b acc own live tk s hr hu ha hs hc
  obtain ⟨h2, h3, h4⟩ := rstarts h1
  have e1 := rnow_eq (heap := heap) (i := i) (d := d) (a := a) (b := b) (bad := false) (l := l) (by omega)
  have e2 := ris_eq0 (heap := heap) (i := i) (d := d) (a := a) (b := b) (k := 6) (s := [40]) (l := l) (by omega)
  rw [h4] at e2
  refine ⟨own, live, tk, loop_out hs hc ⟨?zw, ?zp, ?zq⟩⟩
  case zp =>
    simp only [rv, encTok] at *
    simp only [go_sem, ↓reduceIte, ↓reduceDIte, Nat.reduceAdd, Nat.reduceSub, Nat.reduceMul, Nat.reduceLeDiff, Nat.reduceLT, Nat.reduceEqDiff, Nat.reduceBEq, Int.reduceEq, Int.reduceBEq, Int.reduceLT, Int.reduceLE, Int.reduceNeg, Int.reduceToNat, reduceCtorEq, rB117_0, B117_0b, C117, rv, zrv, e1, e2, h2, h3, BEq.rfl]
    rfl
  case zq => simp only [go_sem, ↓reduceIte, ↓reduceDIte, Nat.reduceAdd, Nat.reduceSub, Nat.reduceMul, Nat.reduceLeDiff, Nat.reduceLT, Nat.reduceEqDiff, Nat.reduceBEq, Int.reduceEq, Int.reduceBEq, Int.reduceLT, Int.reduceLE, Int.reduceNeg, Int.reduceToNat, reduceCtorEq, C117, rv, zrv, List.append_nil]

theorem rloop_bad {d : Int} {acc : List Ty} {own : Own} {live : List Nat} {tk : Nat} {s : St} (hl : l.length < 2 ^ 30)
    (hs : strays [1, 2, 4] s.loc (clr [1, 2, 4] .undef 0 s.tmps) = false) (hc : s.clear [1, 2, 4] = C117 l i d true a b acc own live tk heap) :
    ∃ J K, runL noPr tab [1, 2, 4] (.loop B117_0) s = some (.brk 0, (C117 l i d true a b acc own live tk heap).junk [1, 2, 4] J K) := by
  refine loop_out hs hc ⟨?zw, ?zp, ?zq⟩
  case zp =>
    simp only [go_sem, ↓reduceIte, ↓reduceDIte, Nat.reduceAdd, Nat.reduceSub, Nat.reduceMul, Nat.reduceLeDiff, Nat.reduceLT, Nat.reduceEqDiff, Nat.reduceBEq, Int.reduceEq, Int.reduceBEq, Int.reduceLT, Int.reduceLE, Int.reduceNeg, Int.reduceToNat, reduceCtorEq, rB117_0, B117_0b, C117, rv, zrv, BEq.rfl]
    rfl
  case zq => simp only [go_sem, ↓reduceIte, ↓reduceDIte, Nat.reduceAdd, Nat.reduceSub, Nat.reduceMul, Nat.reduceLeDiff, Nat.reduceLT, Nat.reduceEqDiff, Nat.reduceBEq, Int.reduceEq, Int.reduceBEq, Int.reduceLT, Int.reduceLE, Int.reduceNeg, Int.reduceToNat, reduceCtorEq, C117, rv, zrv]

theorem rloop_fail {x y : Int} (hl : l.length < 2 ^ 30) (hi : i ≤ l.length) (h1 : startsT l i = true) (hA : RTyp l i d true (.fail x y)) : RLoop l i d (.fail x y) := by
  intro heap a b acc own live tk s hr hu ha hs hc
  have e1 := rnow_eq (heap := heap) (i := i) (d := d) (a := a) (b := b) (bad := false) (l := l) (by omega)
  have e2 := ris_eq0 (heap := heap) (i := i) (d := d) (a := a) (b := b) (k := 6) (s := [40]) (l := l) (by omega)
  obtain ⟨j, d', t, e3⟩ := hA heap a b
  have e4 : acc.length + 1 ≤ 17179869184 := by omega
  obtain ⟨k0, n0, q0, a0⟩ := t
  have key : ∀ s', strays [1, 2, 4] s'.loc (clr [1, 2, 4] .undef 0 s'.tmps) = false → s'.clear [1, 2, 4] = C117 l j d' true x y (acc ++ [.mk k0 n0 q0 a0]) (.tok tk) [tk] (tk + 1) heap →
      RLPost l d heap a b acc (runL noPr tab [1, 2, 4] (.loop B117_0) s') (.fail x y) := fun s' h1 h2 => ⟨j, d', acc ++ [.mk k0 n0 q0 a0], .tok tk, [tk], tk + 1, rloop_bad hl h1 h2⟩
  rw [runL_loop_at hs hc]
  unfold startsT at h1
  simp only [rv, encTok, encTy] at *
  cases h2 : ((nowT l i).kind == 2) <;> cases h3 : ((nowT l i).kind == 3) <;> cases h5 : isT l i 6 [40] <;> simp only [h2, h3, h5, Bool.or_false, Bool.false_eq_true] at h1 <;>
    simp only [h5] at e2 <;> simp only [go_sem, ↓reduceIte, ↓reduceDIte, Nat.reduceAdd, Nat.reduceSub, Nat.reduceMul, Nat.reduceLeDiff, Nat.reduceLT, Nat.reduceEqDiff, Nat.reduceBEq, Int.reduceEq, Int.reduceBEq, Int.reduceLT, Int.reduceLE, Int.reduceNeg, Int.reduceToNat, reduceCtorEq, rB117_0, B117_0b, C117, rv, zrv, e1, e2, e3, e4, h2, h3, hr, hu, Go.PM.maxLen, List.length_append, encTys_len, BEq.rfl]
  all_goals exact key _ rfl (by simp only [go_sem, ↓reduceIte, ↓reduceDIte, Nat.reduceAdd, Nat.reduceSub, Nat.reduceMul, Nat.reduceLeDiff, Nat.reduceLT, Nat.reduceEqDiff, Nat.reduceBEq, Int.reduceEq, Int.reduceBEq, Int.reduceLT, Int.reduceLE, Int.reduceNeg, Int.reduceToNat, reduceCtorEq, C117, rv, zrv, encTys_append, encTys, encTy])

theorem rloop_more {j : Nat} {t : Ty} {r : PRs} (hl : l.length < 2 ^ 30) (hi : i ≤ l.length) (h1 : startsT l i = true) (hA : RTyp l i d true (.ok j t)) (hj : i < j) (hL : RLoop l j d r) : RLoop l i d (consR t r) := by
  intro heap a b acc own live tk s hr hu ha hs hc
  have e1 := rnow_eq (heap := heap) (i := i) (d := d) (a := a) (b := b) (bad := false) (l := l) (by omega)
  have e2 := ris_eq0 (heap := heap) (i := i) (d := d) (a := a) (b := b) (k := 6) (s := [40]) (l := l) (by omega)
  have e3 : callL _ _ _ _ _ = _ := hA heap a b
  have e4 : acc.length + 1 ≤ 17179869184 := by omega
  have key : ∀ s', strays [1, 2, 4] s'.loc (clr [1, 2, 4] .undef 0 s'.tmps) = false → s'.clear [1, 2, 4] = C117 l j d false a b (acc ++ [t]) (.tok tk) [tk] (tk + 1) heap →
      RLPost l d heap a b acc (runL noPr tab [1, 2, 4] (.loop B117_0) s') (consR t r) :=
    fun s' h1 h2 => .step (hL heap a b (acc ++ [t]) (.tok tk) [tk] (tk + 1) s' (by simp only [go_sem, ↓reduceIte, ↓reduceDIte, Nat.reduceAdd, Nat.reduceSub, Nat.reduceMul, Nat.reduceLeDiff, Nat.reduceLT, Nat.reduceEqDiff, Nat.reduceBEq, Int.reduceEq, Int.reduceBEq, Int.reduceLT, Int.reduceLE, Int.reduceNeg, Int.reduceToNat, reduceCtorEq, List.elem_cons]) (by simp [unlive]) (by simp; omega) h1 h2)
  obtain ⟨k0, n0, q0, a0⟩ := t
  rw [runL_loop_at hs hc]
  unfold startsT at h1
  simp only [rv, encTok, encTy] at *
  cases h2 : ((nowT l i).kind == 2) <;> cases h3 : ((nowT l i).kind == 3) <;> cases h5 : isT l i 6 [40] <;> simp only [h2, h3, h5, Bool.or_false, Bool.false_eq_true] at h1 <;>
    simp only [h5] at e2 <;> simp only [go_sem, ↓reduceIte, ↓reduceDIte, Nat.reduceAdd, Nat.reduceSub, Nat.reduceMul, Nat.reduceLeDiff, Nat.reduceLT, Nat.reduceEqDiff, Nat.reduceBEq, Int.reduceEq, Int.reduceBEq, Int.reduceLT, Int.reduceLE, Int.reduceNeg, Int.reduceToNat, reduceCtorEq, rB117_0, B117_0b, C117, rv, zrv, e1, e2, e3, e4, h2, h3, hr, hu, Go.PM.maxLen, List.length_append, encTys_len, BEq.rfl]
  all_goals exact key _ rfl (by simp only [go_sem, ↓reduceIte, ↓reduceDIte, Nat.reduceAdd, Nat.reduceSub, Nat.reduceMul, Nat.reduceLeDiff, Nat.reduceLT, Nat.reduceEqDiff, Nat.reduceBEq, Int.reduceEq, Int.reduceBEq, Int.reduceLT, Int.reduceLE, Int.reduceNeg, Int.reduceToNat, reduceCtorEq, C117, rv, zrv, encTys_append, encTys, encTy])

theorem rtypes_of {r : PRs} (hL : RLoop l i d r) : RTypes l i d r := by
  intro heap a b
  have key : ∀ s', strays [1, 2, 4] s'.loc (clr [1, 2, 4] .undef 0 s'.tmps) = false → s'.clear [1, 2, 4] = C117 l i d false a b [] .exact [] 1 heap → RLPost l d heap a b [] (runL noPr tab [1, 2, 4] (.loop B117_0) s') r :=
    fun s' h1 h2 => hL _ a b [] .exact [] 1 s' rfl rfl (by simp) h1 h2
  have h0 := key ((C117 l i d false a b [] .exact [] 1 heap).junk [1, 2, 4] (fun n => if n = 0 then .agg (rv l i d false a b) else if n = 3 then .sl 4 [] .exact else .undef) (fun _ => none)) rfl rfl
  have hst : (C117 l i d false a b [] .exact [] 1 heap).junk [1, 2, 4] (fun n => if n = 0 then .agg (rv l i d false a b) else if n = 3 then .sl 4 [] .exact else .undef) (fun _ => none) =
    { tmps := [.agg (rv l i d false a b), .lref 1 0, .lref 2 0, .sl 4 [] .exact, .sl 4 [] .exact] ++ List.replicate 33 .undef, loc := [none, some (rv l i d false a b), some zrv] ++ List.replicate 35 none, live := [], tk := 1, defers := [], pan := none, recd := false, heap := heap } := rfl
  rw [hst] at h0
  cases r with
  | fail x y =>
    obtain ⟨o1, o2, o3, o4, o5, o6, o7, o8, h5⟩ := h0
    refine ⟨o1, o2, o3, ?_⟩
    rw [callL_fn rfl rfl]
    simp only [rv, zrv] at h5
    simp only [go_sem, ↓reduceIte, ↓reduceDIte, Nat.reduceAdd, Nat.reduceSub, Nat.reduceMul, Nat.reduceLeDiff, Nat.reduceLT, Nat.reduceEqDiff, Nat.reduceBEq, Int.reduceEq, Int.reduceBEq, Int.reduceLT, Int.reduceLE, Int.reduceNeg, Int.reduceToNat, reduceCtorEq, ] at h5
    simp only [go_sem, ↓reduceIte, ↓reduceDIte, Nat.reduceAdd, Nat.reduceSub, Nat.reduceMul, Nat.reduceLeDiff, Nat.reduceLT, Nat.reduceEqDiff, Nat.reduceBEq, Int.reduceEq, Int.reduceBEq, Int.reduceLT, Int.reduceLE, Int.reduceNeg, Int.reduceToNat, reduceCtorEq, F117, rv, h5, C117, zrv]
  | ok k ts =>
    obtain ⟨o1, o2, o3, o4, o5, h5⟩ := h0
    show callL _ _ _ _ _ = _
    rw [callL_fn rfl rfl]
    simp only [rv, zrv] at h5
    simp only [go_sem, ↓reduceIte, ↓reduceDIte, Nat.reduceAdd, Nat.reduceSub, Nat.reduceMul, Nat.reduceLeDiff, Nat.reduceLT, Nat.reduceEqDiff, Nat.reduceBEq, Int.reduceEq, Int.reduceBEq, Int.reduceLT, Int.reduceLE, Int.reduceNeg, Int.reduceToNat, reduceCtorEq, ] at h5
    simp only [go_sem, ↓reduceIte, ↓reduceDIte, Nat.reduceAdd, Nat.reduceSub, Nat.reduceMul, Nat.reduceLeDiff, Nat.reduceLT, Nat.reduceEqDiff, Nat.reduceBEq, Int.reduceEq, Int.reduceBEq, Int.reduceLT, Int.reduceLE, Int.reduceNeg, Int.reduceToNat, reduceCtorEq, F117, rv, h5, C117, zrv]

theorem rType_ok {j : Nat} {t : Ty} (h : RTyp l i 0 false (.ok j t)) : callL noPr tab 17 [.agg (rv l i 0 false 0 0)] heap = some (.ret (.tup [.agg (rv l j 0 false 0 0), .agg (encTy t)]), heap) := by
  have e : callL _ _ _ _ _ = _ := h heap 0 0
  rw [callL_fn rfl rfl]
  cases t
  simp only [rv, encTy, Int.cast_ofNat_Int] at *
  simp only [go_sem, ↓reduceIte, ↓reduceDIte, Nat.reduceAdd, Nat.reduceSub, Nat.reduceMul, Nat.reduceLeDiff, Nat.reduceLT, Nat.reduceEqDiff, Nat.reduceBEq, Int.reduceEq, Int.reduceBEq, Int.reduceLT, Int.reduceLE, Int.reduceNeg, Int.reduceToNat, reduceCtorEq, F17, e]

theorem rType_fail {x y : Int} (h : RTyp l i 0 false (.fail x y)) : ∃ (j : Nat) (d' : Int) (t : Ty), callL noPr tab 17 [.agg (rv l i 0 false 0 0)] heap = some (.ret (.tup [.agg (rv l j d' true x y), .agg (encTy t)]), heap) := by
  obtain ⟨j, d', t, e⟩ := h heap 0 0
  refine ⟨j, d', t, ?_⟩
  rw [callL_fn rfl rfl]
  cases t
  simp only [rv, encTy, Int.cast_ofNat_Int] at *
  simp only [go_sem, ↓reduceIte, ↓reduceDIte, Nat.reduceAdd, Nat.reduceSub, Nat.reduceMul, Nat.reduceLeDiff, Nat.reduceLT, Nat.reduceEqDiff, Nat.reduceBEq, Int.reduceEq, Int.reduceBEq, Int.reduceLT, Int.reduceLE, Int.reduceNeg, Int.reduceToNat, reduceCtorEq, F17, e]

theorem mType_ok {j : Nat} {t : Ty} (i : Int) (h : PTyp l i.toNat 0 (.ok j t)) : ∃ heap', callL noPr tab 16 [.sl 5 (l.map encTok) .none, .int .i64 i] heap = some (.ret (.tup [.agg (encTy t), .int .i64 j, .agg [.int .i64 0, .int .i64 0, .int .i64 0]]), heap') := by
  have g1 := getElem?_snoc heap (rd l i.toNat 0 0 0 0)
  have e : callL _ _ _ _ _ = _ := h heap.length _ 0 0 g1
  have g2 := getElem?_snoc heap (rd l j 0 0 0 0)
  have e2 := ok_eq g2
  have w : (if i < 0 then (0 : Int) else i) = ((i.toNat : Nat) : Int) := by split <;> omega
  refine ⟨heap ++ [rd l j 0 0 0 0], ?_⟩
  rw [callL_fn rfl rfl]
  cases t
  simp only [rd, encTy, Int.cast_ofNat_Int, set_snoc] at *
  simp only [go_sem, ↓reduceIte, ↓reduceDIte, Nat.reduceAdd, Nat.reduceSub, Nat.reduceMul, Nat.reduceLeDiff, Nat.reduceLT, Nat.reduceEqDiff, Nat.reduceBEq, Int.reduceEq, Int.reduceBEq, Int.reduceLT, Int.reduceLE, Int.reduceNeg, Int.reduceToNat, reduceCtorEq, F16, e, e2, g1, g2, w, set_snoc]

theorem mType_fail {x y : Int} (i : Int) (h : PTyp l i.toNat 0 (.fail x y)) : ∃ heap', callL noPr tab 16 [.sl 5 (l.map encTok) .none, .int .i64 i] heap = some (.ret (.tup [.agg (encTy zeroTy), .int .i64 0, .agg [.int .i64 1, .int .i64 x, .int .i64 y]]), heap') := by
  have g1 := getElem?_snoc heap (rd l i.toNat 0 0 0 0)
  obtain ⟨j, t, e⟩ := h heap.length _ 0 0 g1
  have g2 := getElem?_snoc heap (rd l j 0 1 x y)
  have e2 := ok_eq g2
  have w : (if i < 0 then (0 : Int) else i) = ((i.toNat : Nat) : Int) := by split <;> omega
  refine ⟨heap ++ [rd l j 0 1 x y], ?_⟩
  rw [callL_fn rfl rfl]
  cases t
  simp only [rd, encTy, encTys, zeroTy, Int.cast_ofNat_Int, set_snoc] at *
  simp only [go_sem, ↓reduceIte, ↓reduceDIte, Nat.reduceAdd, Nat.reduceSub, Nat.reduceMul, Nat.reduceLeDiff, Nat.reduceLT, Nat.reduceEqDiff, Nat.reduceBEq, Int.reduceEq, Int.reduceBEq, Int.reduceLT, Int.reduceLE, Int.reduceNeg, Int.reduceToNat, reduceCtorEq, F16, e, e2, g1, g2, w, set_snoc]

end Go.Proofs.Ytgaleaihhhdlgaa.MT

/- All types of a type; whether two are the same. -/
namespace Go.Proofs.Ytgaleaihhhdlgaa.MT
open Go.PM Go.Proofs.Ytgaleaihhhdlgaa.Pm

mutual
def allT : Ty → List Ty
  | .mk k s n args => .mk k s n args :: allTs args
def allTs : List Ty → List Ty
  | [] => []
  | t :: r => allT t ++ allTs r
end

mutual
def sameT : Ty → Ty → Bool
  | .mk k s n a, .mk k' s' n' a' => k == k' && (decide (s = s') && (n == n' && (a.length == a'.length && sames a a')))
def sames : List Ty → List Ty → Bool
  | x :: xs, y :: ys => sameT x y && sames xs ys
  | [], _ => true
  | _ :: _, [] => true
end

mutual
theorem sameT_refl : ∀ t, sameT t t = true
  | .mk k s n a => by simp [sameT, sames_refl a]
theorem sames_refl : ∀ a, sames a a = true
  | [] => by simp [sames]
  | t :: r => by simp [sames, sameT_refl t, sames_refl r]
end

theorem allT_len (t : Ty) : 1 ≤ (allT t).length := by cases t; simp [allT]
theorem allTs_len : ∀ r : List Ty, r.length ≤ (allTs r).length
  | [] => by simp [allTs]
  | t :: r => by have := allTs_len r; have := allT_len t; simp [allTs]; omega

def C15 (args : List Ty) (k : Nat) (acc : List Ty) (own : Own) (live : List Nat) (tk : Nat) (heap : List HObj) : St :=
  { tmps := [.undef, .undef, .undef, .sl 4 (encTys acc) own, .undef, .undef, .undef, .undef, .undef, .sl 4 (encTys args) .none, .int .i64 args.length, .int .i64 k] ++ List.replicate 9 .undef, loc := List.replicate 21 none, live := live, tk := tk, defers := [], pan := none, recd := false, heap := heap }

theorem get_mid {α : Type} (a : List α) (x : α) (b : List α) : (a ++ x :: b)[a.length]? = some x := by simp

mutual
theorem all_eq : ∀ (t : Ty), (allT t).length < 2 ^ 31 → ∀ heap, callL noPr tab 15 [.agg (encTy t)] heap = some (.ret (.sl 4 (encTys (allT t)) .none), heap)
  | .mk k0 s0 n0 args, hb, heap => by
    have hlen : (allTs args).length + 1 < 2 ^ 31 := by simpa [allT] using hb
    obtain ⟨own, live, tk, J, K, e⟩ := all_loop args args [] [.mk k0 s0 n0 args] .exact [] 1 heap
      { tmps := [.agg (encTy (.mk k0 s0 n0 args)), .lref 1 0, .sl 4 [] .exact, .sl 4 [encTy (.mk k0 s0 n0 args)] .exact, .undef, .undef, .agg (encTy (.mk k0 s0 n0 args)), .sl 4 [encTy (.mk k0 s0 n0 args)] .exact, .lref 1 3, .sl 4 (encTys args) .none, .int .i64 args.length, .int .i64 0] ++ List.replicate 9 .undef,
        loc := [none, some (encTy (.mk k0 s0 n0 args))] ++ List.replicate 19 none, live := [], tk := 1, defers := [], pan := none, recd := false, heap := heap }
      rfl rfl rfl (by have := allTs_len args; simp; omega) (by omega) (by have := allTs_len args; omega) rfl rfl
    rw [callL_fn rfl rfl]
    simp only [encTy, allT, encTys, List.cons_append, List.nil_append] at *
    simp only [go_sem, ↓reduceIte, ↓reduceDIte, Nat.reduceAdd, Nat.reduceSub, Nat.reduceMul, Nat.reduceLeDiff, Nat.reduceLT, Nat.reduceEqDiff, Nat.reduceBEq, Int.reduceEq, Int.reduceBEq, Int.reduceLT, Int.reduceLE, Int.reduceNeg, Int.reduceToNat, reduceCtorEq, ] at e
    simp only [go_sem, ↓reduceIte, ↓reduceDIte, Nat.reduceAdd, Nat.reduceSub, Nat.reduceMul, Nat.reduceLeDiff, Nat.reduceLT, Nat.reduceEqDiff, Nat.reduceBEq, Int.reduceEq, Int.reduceBEq, Int.reduceLT, Int.reduceLE, Int.reduceNeg, Int.reduceToNat, reduceCtorEq, F15, encTys_len, e, C15, encTys, encTy]
theorem all_loop : ∀ (r args done acc : List Ty) (own : Own) (live : List Nat) (tk : Nat) (heap : List HObj) (s : St), args = done ++ r → roomy live own = true → unlive live own = [] → acc.length + (allTs r).length < 2 ^ 32 → (allTs r).length < 2 ^ 31 → args.length < 2 ^ 60 →
    strays [3, 9, 10, 11] s.loc (clr [3, 9, 10, 11] .undef 0 s.tmps) = false → s.clear [3, 9, 10, 11] = C15 args done.length acc own live tk heap →
    ∃ own live tk J K, runL noPr tab [3, 9, 10, 11] (.loop B15_0) s = some (.brk 0, (C15 args args.length (acc ++ allTs r) own live tk heap).junk [3, 9, 10, 11] J K)
  | [], args, done, acc, own, live, tk, heap, s, ha, hr, hu, hb, hb3, hb2, hs, hc => by
    have h1 : decide ((done.length : Int) < (args.length : Int)) = false := by subst ha; simp
    refine ⟨own, live, tk, loop_out hs hc ⟨?zw, ?zp, ?zq⟩⟩
    case zp =>
      simp only [go_sem, ↓reduceIte, ↓reduceDIte, Nat.reduceAdd, Nat.reduceSub, Nat.reduceMul, Nat.reduceLeDiff, Nat.reduceLT, Nat.reduceEqDiff, Nat.reduceBEq, Int.reduceEq, Int.reduceBEq, Int.reduceLT, Int.reduceLE, Int.reduceNeg, Int.reduceToNat, reduceCtorEq, rB15_0, B15_0b, C15, h1]
      rfl
    case zq => subst ha; simp only [go_sem, ↓reduceIte, ↓reduceDIte, Nat.reduceAdd, Nat.reduceSub, Nat.reduceMul, Nat.reduceLeDiff, Nat.reduceLT, Nat.reduceEqDiff, Nat.reduceBEq, Int.reduceEq, Int.reduceBEq, Int.reduceLT, Int.reduceLE, Int.reduceNeg, Int.reduceToNat, reduceCtorEq, C15, allTs, List.append_nil]
  | t :: r, args, done, acc, own, live, tk, heap, s, ha, hr, hu, hb, hb3, hb2, hs, hc => by
    have h1 : decide ((done.length : Int) < (args.length : Int)) = true := by subst ha; simp; omega
    have h2 : args[done.length]? = some t := by subst ha; exact get_mid done t r
    simp only [allTs, List.length_append] at hb hb3
    have e3 := all_eq t (by omega) heap
    have h4 := up (n := done.length) (by subst ha; simp at hb2; omega)
    have h5 : acc.length + (allT t).length ≤ 17179869184 := by omega
    have h6 : (encTys (allT t)).all (fun c => c.all AV.one) = true := by
      rw [List.all_eq_true]
      intro c hcm
      obtain ⟨k, hk⟩ := List.mem_iff_getElem?.1 hcm
      rw [encTys_get, Option.map_eq_some_iff] at hk
      obtain ⟨y, _, rfl⟩ := hk
      exact encTy_one y
    have key : ∀ s', strays [3, 9, 10, 11] s'.loc (clr [3, 9, 10, 11] .undef 0 s'.tmps) = false → s'.clear [3, 9, 10, 11] = C15 args (done.length + 1) (acc ++ allT t) (.tok tk) [tk] (tk + 1) heap →
        ∃ own live tk J K, runL noPr tab [3, 9, 10, 11] (.loop B15_0) s' = some (.brk 0, (C15 args args.length (acc ++ allTs (t :: r)) own live tk heap).junk [3, 9, 10, 11] J K) := fun s' k1 k2 => by
      have := all_loop r args (done ++ [t]) (acc ++ allT t) (.tok tk) [tk] (tk + 1) heap s' (by subst ha; simp) (by simp only [go_sem, ↓reduceIte, ↓reduceDIte, Nat.reduceAdd, Nat.reduceSub, Nat.reduceMul, Nat.reduceLeDiff, Nat.reduceLT, Nat.reduceEqDiff, Nat.reduceBEq, Int.reduceEq, Int.reduceBEq, Int.reduceLT, Int.reduceLE, Int.reduceNeg, Int.reduceToNat, reduceCtorEq, List.elem_cons]) (by simp [unlive]) (by simp; omega) (by omega) hb2 k1 (by rw [k2]; simp)
      simpa [allTs, List.append_assoc] using this
    rw [runL_loop_at hs hc]
    obtain ⟨k0, n0, q0, a0⟩ := t
    simp only [encTy] at e3
    simp only [go_sem, ↓reduceIte, ↓reduceDIte, Nat.reduceAdd, Nat.reduceSub, Nat.reduceMul, Nat.reduceLeDiff, Nat.reduceLT, Nat.reduceEqDiff, Nat.reduceBEq, Int.reduceEq, Int.reduceBEq, Int.reduceLT, Int.reduceLE, Int.reduceNeg, Int.reduceToNat, reduceCtorEq, rB15_0, B15_0b, C15, h1, h2, e3, h4, h5, h6, hr, hu, Go.PM.maxLen, List.length_append, encTys_len, encTys_get, encTy]
    exact key _ rfl (by simp only [go_sem, ↓reduceIte, ↓reduceDIte, Nat.reduceAdd, Nat.reduceSub, Nat.reduceMul, Nat.reduceLeDiff, Nat.reduceLT, Nat.reduceEqDiff, Nat.reduceBEq, Int.reduceEq, Int.reduceBEq, Int.reduceLT, Int.reduceLE, Int.reduceNeg, Int.reduceToNat, reduceCtorEq, C15, encTys_append])
end

end Go.Proofs.Ytgaleaihhhdlgaa.MT

/- Whether two types are the same, by the program and by the document. -/
namespace Go.Proofs.Ytgaleaihhhdlgaa.MT
open Go.PM Go.Proofs.Ytgaleaihhhdlgaa.Pm

def C60 (x y : List Ty) (k : Nat) (heap : List HObj) : St :=
  { tmps := [.undef, .sl 4 (encTys y) .none, .fn (.func 18) [] []] ++ List.replicate 12 .undef ++ [.sl 4 (encTys x) .none, .int .i64 x.length, .int .i64 k] ++ List.replicate 14 .undef, loc := List.replicate 32 none, live := [], tk := 3, defers := [], pan := none, recd := false, heap := heap }
/-- a return out of the loop: slot 6 holds what is returned -/
def D60 (heap : List HObj) : St :=
  { tmps := List.replicate 6 .undef ++ [.bool false] ++ List.replicate 25 .undef, loc := List.replicate 32 none, live := [], tk := 3, defers := [], pan := none, recd := false, heap := heap }

def End60 (x y : List Ty) (heap : List HObj) (r : Option (Ex × St)) : Bool → Prop
  | true => ∃ J K, r = some (.brk 0, (C60 x y x.length heap).junk [1, 2, 15, 16, 17] J K)
  | false => ∃ J K, r = some (.ret, (D60 heap).junk [6] J K)

def C19 (x y : Ty) (xs ys : List Ty) (k : Nat) (heap : List HObj) : St :=
  { tmps := [.undef, .undef, .lref 2 0, .lref 3 0] ++ List.replicate 32 .undef ++ [.int .i64 xs.length, .int .i64 k] ++ List.replicate 15 .undef, loc := [none, none, some (encTy x), some (encTy y)] ++ List.replicate 49 none, live := [], tk := 2, defers := [], pan := none, recd := false, heap := heap }
def D19 (heap : List HObj) : St :=
  { tmps := List.replicate 4 .undef ++ [.bool false] ++ List.replicate 48 .undef, loc := List.replicate 53 none, live := [], tk := 2, defers := [], pan := none, recd := false, heap := heap }

def End19 (x y : Ty) (xs ys : List Ty) (heap : List HObj) (r : Option (Ex × St)) : Bool → Prop
  | true => ∃ J K, r = some (.brk 0, (C19 x y xs ys xs.length heap).junk [2, 3, 36, 37] J K)
  | false => ∃ J K, r = some (.ret, (D19 heap).junk [4] J K)

theorem beq_cast (a b : Nat) : ((a : Int) == (b : Int)) = (a == b) := by
  rw [Bool.eq_iff_iff]; simp; omega
theorem bne_cast (a b : Nat) : ((a : Int) != (b : Int)) = !(a == b) := by
  rw [bne, beq_cast]

theorem allTs_append (a b : List Ty) : allTs (a ++ b) = allTs a ++ allTs b := by
  induction a with
  | nil => rfl
  | cons z a ih => simp [allTs, ih]

theorem part_len {x dx r : List Ty} {t : Ty} {m : Nat} (hx : x = dx ++ t :: r) (hb : (allTs x).length ≤ m) : (allT t).length ≤ m ∧ x.length ≤ m := by
  have := allTs_len x
  subst hx
  rw [allTs_append] at hb this
  simp [allTs] at hb this
  simp
  omega

def P18 (m : Nat) : Prop := ∀ (t u : Ty), (allT t).length ≤ m → ∀ heap, callL noPr tab 18 [.agg (encTy t), .agg (encTy u)] heap = some (.ret (.bool (sameT t u)), heap)
def P19 (m : Nat) : Prop := ∀ (t u : Ty), (allT t).length ≤ m → ∀ heap, callL noPr tab 19 [.agg (encTy t), .agg (encTy u)] heap = some (.ret (.bool (sameT t u)), heap)

theorem loop60 {m : Nat} (hm : m < 2 ^ 31) (ih : P18 m) : ∀ (r q x y dx dy : List Ty), x = dx ++ r → y = dy ++ q → dx.length = dy.length → r.length = q.length → (allTs x).length ≤ m → ∀ heap s,
    strays [1, 2, 15, 16, 17] s.loc (clr [1, 2, 15, 16, 17] .undef 0 s.tmps) = false → s.clear [1, 2, 15, 16, 17] = C60 x y dx.length heap → End60 x y heap (runL noPr tab [1, 2, 15, 16, 17] (.loop B60_0) s) (sames r q)
  | [], q, x, y, dx, dy, hx, hy, hd, hl, hb, heap, s, hs, hc => by
    have h1 : decide ((dx.length : Int) < (x.length : Int)) = false := by subst hx; simp
    simp only [sames]
    refine loop_out hs hc ⟨?zw1, ?zp1, ?zq1⟩
    case zp1 =>
      simp only [go_sem, ↓reduceIte, ↓reduceDIte, Nat.reduceAdd, Nat.reduceSub, Nat.reduceMul, Nat.reduceLeDiff, Nat.reduceLT, Nat.reduceEqDiff, Nat.reduceBEq, Int.reduceEq, Int.reduceBEq, Int.reduceLT, Int.reduceLE, Int.reduceNeg, Int.reduceToNat, reduceCtorEq, rB60_0, B60_0b, C60, h1]
      rfl
    case zq1 => subst hx; simp only [go_sem, ↓reduceIte, ↓reduceDIte, Nat.reduceAdd, Nat.reduceSub, Nat.reduceMul, Nat.reduceLeDiff, Nat.reduceLT, Nat.reduceEqDiff, Nat.reduceBEq, Int.reduceEq, Int.reduceBEq, Int.reduceLT, Int.reduceLE, Int.reduceNeg, Int.reduceToNat, reduceCtorEq, C60, List.append_nil]
  | t :: r, [], x, y, dx, dy, hx, hy, hd, hl, hb, heap, s, hs, hc => by simp at hl
  | t :: r, u :: q, x, y, dx, dy, hx, hy, hd, hl, hb, heap, s, hs, hc => by
    have h1 : decide ((dx.length : Int) < (x.length : Int)) = true := by subst hx; simp; omega
    have h2 : x[dx.length]? = some t := by subst hx; exact get_mid dx t r
    have h3 : y[dx.length]? = some u := by subst hy; rw [hd]; exact get_mid dy u q
    obtain ⟨hb1, hb2⟩ := part_len hx hb
    have e3 := ih t u hb1 heap
    have h4 := up (n := dx.length) (by subst hx; simp at hb2; omega)
    simp only [sames]
    obtain ⟨k0, n0, q0, a0⟩ := t
    obtain ⟨k1, n1, q1, a1⟩ := u
    cases h5 : sameT (.mk k0 n0 q0 a0) (.mk k1 n1 q1 a1) with
    | true =>
      rw [h5] at e3
      have key := fun s' k1' k2 => loop60 hm ih r q x y (dx ++ [.mk k0 n0 q0 a0]) (dy ++ [.mk k1 n1 q1 a1]) (by subst hx; simp) (by subst hy; simp) (by simp [hd]) (by simpa using hl) hb heap s' k1' k2
      rw [List.length_append, List.length_singleton] at key
      rw [runL_loop_at hs hc]
      simp only [encTy] at e3
      simp only [go_sem, ↓reduceIte, ↓reduceDIte, Nat.reduceAdd, Nat.reduceSub, Nat.reduceMul, Nat.reduceLeDiff, Nat.reduceLT, Nat.reduceEqDiff, Nat.reduceBEq, Int.reduceEq, Int.reduceBEq, Int.reduceLT, Int.reduceLE, Int.reduceNeg, Int.reduceToNat, reduceCtorEq, rB60_0, B60_0b, C60, h1, h2, h3, e3, h4, encTys_len, encTys_get, encTy]
      exact key _ rfl (by simp only [go_sem, ↓reduceIte, ↓reduceDIte, Nat.reduceAdd, Nat.reduceSub, Nat.reduceMul, Nat.reduceLeDiff, Nat.reduceLT, Nat.reduceEqDiff, Nat.reduceBEq, Int.reduceEq, Int.reduceBEq, Int.reduceLT, Int.reduceLE, Int.reduceNeg, Int.reduceToNat, reduceCtorEq, C60])
    | false =>
      rw [h5] at e3
      refine loop_out2 hs hc (by simp) ⟨?zw2, ?zp2, ?zq2⟩
      case zp2 =>
        simp only [encTy] at e3
        simp only [go_sem, ↓reduceIte, ↓reduceDIte, Nat.reduceAdd, Nat.reduceSub, Nat.reduceMul, Nat.reduceLeDiff, Nat.reduceLT, Nat.reduceEqDiff, Nat.reduceBEq, Int.reduceEq, Int.reduceBEq, Int.reduceLT, Int.reduceLE, Int.reduceNeg, Int.reduceToNat, reduceCtorEq, rB60_0, B60_0b, C60, h1, h2, h3, e3, h4, encTys_len, encTys_get, encTy]
        rfl
      case zq2 => simp only [go_sem, ↓reduceIte, ↓reduceDIte, Nat.reduceAdd, Nat.reduceSub, Nat.reduceMul, Nat.reduceLeDiff, Nat.reduceLT, Nat.reduceEqDiff, Nat.reduceBEq, Int.reduceEq, Int.reduceBEq, Int.reduceLT, Int.reduceLE, Int.reduceNeg, Int.reduceToNat, reduceCtorEq, D60]

theorem same60 {m : Nat} (hm : m < 2 ^ 31) (ih : P18 m) (x y : List Ty) (hb : (allTs x).length ≤ m) (heap : List HObj) :
    callL noPr tab 60 [.sl 4 (encTys x) .none, .sl 4 (encTys y) .none, .fn (.func 18) [] []] heap = some (.ret (.bool (x.length == y.length && sames x y)), heap) := by
  rw [callL_fn rfl rfl]
  cases h0 : (x.length == y.length) with
  | false =>
    have h1 : ((x.length : Int) != (y.length : Int)) = true := by rw [bne_cast, h0]; rfl
    simp only [go_sem, ↓reduceIte, ↓reduceDIte, Nat.reduceAdd, Nat.reduceSub, Nat.reduceMul, Nat.reduceLeDiff, Nat.reduceLT, Nat.reduceEqDiff, Nat.reduceBEq, Int.reduceEq, Int.reduceBEq, Int.reduceLT, Int.reduceLE, Int.reduceNeg, Int.reduceToNat, reduceCtorEq, F60, encTys_len, h1]
  | true =>
    have h1 : ((x.length : Int) != (y.length : Int)) = false := by rw [bne_cast, h0]; rfl
    have e := loop60 hm ih x y x y [] [] rfl rfl rfl (by simpa using h0) hb heap
      { tmps := [.sl 4 (encTys x) .none, .sl 4 (encTys y) .none, .fn (.func 18) [] [], .undef, .undef, .undef, .bool false, .undef, .undef, .undef, .sl 4 (encTys x) .none, .int .i64 x.length, .sl 4 (encTys y) .none, .int .i64 y.length, .bool false, .sl 4 (encTys x) .none, .int .i64 x.length, .int .i64 0] ++ List.replicate 14 .undef,
        loc := List.replicate 32 none, live := [], tk := 3, defers := [], pan := none, recd := false, heap := heap } rfl rfl
    cases h2 : sames x y with
    | true =>
      rw [h2] at e
      obtain ⟨J, K, e⟩ := e
      simp only [C60] at e
      simp only [go_sem, ↓reduceIte, ↓reduceDIte, Nat.reduceAdd, Nat.reduceSub, Nat.reduceMul, Nat.reduceLeDiff, Nat.reduceLT, Nat.reduceEqDiff, Nat.reduceBEq, Int.reduceEq, Int.reduceBEq, Int.reduceLT, Int.reduceLE, Int.reduceNeg, Int.reduceToNat, reduceCtorEq, ] at e
      simp only [go_sem, ↓reduceIte, ↓reduceDIte, Nat.reduceAdd, Nat.reduceSub, Nat.reduceMul, Nat.reduceLeDiff, Nat.reduceLT, Nat.reduceEqDiff, Nat.reduceBEq, Int.reduceEq, Int.reduceBEq, Int.reduceLT, Int.reduceLE, Int.reduceNeg, Int.reduceToNat, reduceCtorEq, F60, encTys_len, h1, e]
    | false =>
      rw [h2] at e
      obtain ⟨J, K, e⟩ := e
      simp only [D60] at e
      simp only [go_sem, ↓reduceIte, ↓reduceDIte, Nat.reduceAdd, Nat.reduceSub, Nat.reduceMul, Nat.reduceLeDiff, Nat.reduceLT, Nat.reduceEqDiff, Nat.reduceBEq, Int.reduceEq, Int.reduceBEq, Int.reduceLT, Int.reduceLE, Int.reduceNeg, Int.reduceToNat, reduceCtorEq, ] at e
      simp only [go_sem, ↓reduceIte, ↓reduceDIte, Nat.reduceAdd, Nat.reduceSub, Nat.reduceMul, Nat.reduceLeDiff, Nat.reduceLT, Nat.reduceEqDiff, Nat.reduceBEq, Int.reduceEq, Int.reduceBEq, Int.reduceLT, Int.reduceLE, Int.reduceNeg, Int.reduceToNat, reduceCtorEq, F60, encTys_len, h1, e]

theorem same18_step {m : Nat} (hm : m < 2 ^ 31) (ih : P18 m) : P18 (m + 1)
  | .mk k s n x, .mk k' s' n' y, hb, heap => by
    have e := same60 hm ih x y (by simp [allT] at hb; omega) heap
    cases h1 : (k == k')
    · rw [callL_fn rfl rfl]
      simp only [go_sem, ↓reduceIte, ↓reduceDIte, Nat.reduceAdd, Nat.reduceSub, Nat.reduceMul, Nat.reduceLeDiff, Nat.reduceLT, Nat.reduceEqDiff, Nat.reduceBEq, Int.reduceEq, Int.reduceBEq, Int.reduceLT, Int.reduceLE, Int.reduceNeg, Int.reduceToNat, reduceCtorEq, F18, encTy, sameT, h1]
    cases h2 : decide (s = s')
    · rw [callL_fn rfl rfl]
      simp only [go_sem, ↓reduceIte, ↓reduceDIte, Nat.reduceAdd, Nat.reduceSub, Nat.reduceMul, Nat.reduceLeDiff, Nat.reduceLT, Nat.reduceEqDiff, Nat.reduceBEq, Int.reduceEq, Int.reduceBEq, Int.reduceLT, Int.reduceLE, Int.reduceNeg, Int.reduceToNat, reduceCtorEq, F18, encTy, sameT, h1, h2]
    cases h3 : (n == n')
    · rw [callL_fn rfl rfl]
      simp only [go_sem, ↓reduceIte, ↓reduceDIte, Nat.reduceAdd, Nat.reduceSub, Nat.reduceMul, Nat.reduceLeDiff, Nat.reduceLT, Nat.reduceEqDiff, Nat.reduceBEq, Int.reduceEq, Int.reduceBEq, Int.reduceLT, Int.reduceLE, Int.reduceNeg, Int.reduceToNat, reduceCtorEq, F18, encTy, sameT, h1, h2, h3]
    rw [callL_fn rfl rfl]
    simp only [go_sem, ↓reduceIte, ↓reduceDIte, Nat.reduceAdd, Nat.reduceSub, Nat.reduceMul, Nat.reduceLeDiff, Nat.reduceLT, Nat.reduceEqDiff, Nat.reduceBEq, Int.reduceEq, Int.reduceBEq, Int.reduceLT, Int.reduceLE, Int.reduceNeg, Int.reduceToNat, reduceCtorEq, F18, encTy, sameT, e, h1, h2, h3]

theorem same18 : ∀ m, m < 2 ^ 31 → P18 m
  | 0, _ => fun t u h => by have := allT_len t; omega
  | m + 1, h => same18_step (by omega) (same18 m (by omega))

theorem loop19 {m : Nat} (hm : m < 2 ^ 31) (ih : P19 m) : ∀ (r q : List Ty) (kx : Int) (sx : List UInt8) (nx ky : Int) (sy : List UInt8) (ny : Int) (x y dx dy : List Ty), x = dx ++ r → y = dy ++ q → dx.length = dy.length → r.length = q.length → (allTs x).length ≤ m → ∀ heap s,
    strays [2, 3, 36, 37] s.loc (clr [2, 3, 36, 37] .undef 0 s.tmps) = false → s.clear [2, 3, 36, 37] = C19 (.mk kx sx nx x) (.mk ky sy ny y) x y dx.length heap → End19 (.mk kx sx nx x) (.mk ky sy ny y) x y heap (runL noPr tab [2, 3, 36, 37] (.loop B19_0) s) (sames r q)
  | [], q, kx, sx, nx, ky, sy, ny, x, y, dx, dy, hx, hy, hd, hl, hb, heap, s, hs, hc => by
    have h1 : decide ((dx.length : Int) < (x.length : Int)) = false := by subst hx; simp
    simp only [sames]
    refine loop_out hs hc ⟨?zw1, ?zp1, ?zq1⟩
    case zp1 =>
      simp only [go_sem, ↓reduceIte, ↓reduceDIte, Nat.reduceAdd, Nat.reduceSub, Nat.reduceMul, Nat.reduceLeDiff, Nat.reduceLT, Nat.reduceEqDiff, Nat.reduceBEq, Int.reduceEq, Int.reduceBEq, Int.reduceLT, Int.reduceLE, Int.reduceNeg, Int.reduceToNat, reduceCtorEq, rB19_0, B19_0b, C19, h1]
      rfl
    case zq1 => subst hx; simp only [go_sem, ↓reduceIte, ↓reduceDIte, Nat.reduceAdd, Nat.reduceSub, Nat.reduceMul, Nat.reduceLeDiff, Nat.reduceLT, Nat.reduceEqDiff, Nat.reduceBEq, Int.reduceEq, Int.reduceBEq, Int.reduceLT, Int.reduceLE, Int.reduceNeg, Int.reduceToNat, reduceCtorEq, C19, List.append_nil]
  | t :: r, [], kx, sx, nx, ky, sy, ny, x, y, dx, dy, hx, hy, hd, hl, hb, heap, s, hs, hc => by simp at hl
  | t :: r, u :: q, kx, sx, nx, ky, sy, ny, x, y, dx, dy, hx, hy, hd, hl, hb, heap, s, hs, hc => by
    have h1 : decide ((dx.length : Int) < (x.length : Int)) = true := by subst hx; simp; omega
    have h2 : x[dx.length]? = some t := by subst hx; exact get_mid dx t r
    have h3 : y[dx.length]? = some u := by subst hy; rw [hd]; exact get_mid dy u q
    obtain ⟨hb1, hb2⟩ := part_len hx hb
    have e3 := ih t u hb1 heap
    have h4 := up (n := dx.length) (by subst hx; simp at hb2; omega)
    simp only [sames]
    obtain ⟨k0, n0, q0, a0⟩ := t
    obtain ⟨k1, n1, q1, a1⟩ := u
    cases h5 : sameT (.mk k0 n0 q0 a0) (.mk k1 n1 q1 a1) with
    | true =>
      rw [h5] at e3
      have key := fun s' k1' k2 => loop19 hm ih r q kx sx nx ky sy ny x y (dx ++ [.mk k0 n0 q0 a0]) (dy ++ [.mk k1 n1 q1 a1]) (by subst hx; simp) (by subst hy; simp) (by simp [hd]) (by simpa using hl) hb heap s' k1' k2
      rw [List.length_append, List.length_singleton] at key
      rw [runL_loop_at hs hc]
      simp only [encTy] at e3
      simp only [go_sem, ↓reduceIte, ↓reduceDIte, Nat.reduceAdd, Nat.reduceSub, Nat.reduceMul, Nat.reduceLeDiff, Nat.reduceLT, Nat.reduceEqDiff, Nat.reduceBEq, Int.reduceEq, Int.reduceBEq, Int.reduceLT, Int.reduceLE, Int.reduceNeg, Int.reduceToNat, reduceCtorEq, rB19_0, B19_0b, C19, h1, h2, h3, e3, h4, encTys_len, encTys_get, encTy]
      exact key _ rfl (by simp only [go_sem, ↓reduceIte, ↓reduceDIte, Nat.reduceAdd, Nat.reduceSub, Nat.reduceMul, Nat.reduceLeDiff, Nat.reduceLT, Nat.reduceEqDiff, Nat.reduceBEq, Int.reduceEq, Int.reduceBEq, Int.reduceLT, Int.reduceLE, Int.reduceNeg, Int.reduceToNat, reduceCtorEq, C19, encTy])
    | false =>
      rw [h5] at e3
      refine loop_out2 hs hc (by simp) ⟨?zw2, ?zp2, ?zq2⟩
      case zp2 =>
        simp only [encTy] at e3
        simp only [go_sem, ↓reduceIte, ↓reduceDIte, Nat.reduceAdd, Nat.reduceSub, Nat.reduceMul, Nat.reduceLeDiff, Nat.reduceLT, Nat.reduceEqDiff, Nat.reduceBEq, Int.reduceEq, Int.reduceBEq, Int.reduceLT, Int.reduceLE, Int.reduceNeg, Int.reduceToNat, reduceCtorEq, rB19_0, B19_0b, C19, h1, h2, h3, e3, h4, encTys_len, encTys_get, encTy]
        rfl
      case zq2 => simp only [go_sem, ↓reduceIte, ↓reduceDIte, Nat.reduceAdd, Nat.reduceSub, Nat.reduceMul, Nat.reduceLeDiff, Nat.reduceLT, Nat.reduceEqDiff, Nat.reduceBEq, Int.reduceEq, Int.reduceBEq, Int.reduceLT, Int.reduceLE, Int.reduceNeg, Int.reduceToNat, reduceCtorEq, D19]

end Go.Proofs.Ytgaleaihhhdlgaa.MT

/- Sameness by the document; both readers answer alike at any place of any tokens. -/
namespace Go.Proofs.Ytgaleaihhhdlgaa.MT
open Go.PM Go.Proofs.Ytgaleaihhhdlgaa.Pm

theorem same19_step {m : Nat} (hm : m < 2 ^ 31) (ih : P19 m) : P19 (m + 1)
  | .mk k s n x, .mk k' s' n' y, hb, heap => by
    have n1 : (k != k') = !(k == k') := rfl
    have n3 : (n != n') = !(n == n') := rfl
    have n4 := bne_cast x.length y.length
    cases h1 : (k == k')
    · rw [callL_fn rfl rfl]
      simp only [go_sem, ↓reduceIte, ↓reduceDIte, Nat.reduceAdd, Nat.reduceSub, Nat.reduceMul, Nat.reduceLeDiff, Nat.reduceLT, Nat.reduceEqDiff, Nat.reduceBEq, Int.reduceEq, Int.reduceBEq, Int.reduceLT, Int.reduceLE, Int.reduceNeg, Int.reduceToNat, reduceCtorEq, F19, encTy, sameT, n1, h1]
    cases h2 : decide (s = s')
    · rw [callL_fn rfl rfl]
      simp only [go_sem, ↓reduceIte, ↓reduceDIte, Nat.reduceAdd, Nat.reduceSub, Nat.reduceMul, Nat.reduceLeDiff, Nat.reduceLT, Nat.reduceEqDiff, Nat.reduceBEq, Int.reduceEq, Int.reduceBEq, Int.reduceLT, Int.reduceLE, Int.reduceNeg, Int.reduceToNat, reduceCtorEq, F19, encTy, sameT, n1, h1, h2]
    cases h3 : (n == n')
    · rw [callL_fn rfl rfl]
      simp only [go_sem, ↓reduceIte, ↓reduceDIte, Nat.reduceAdd, Nat.reduceSub, Nat.reduceMul, Nat.reduceLeDiff, Nat.reduceLT, Nat.reduceEqDiff, Nat.reduceBEq, Int.reduceEq, Int.reduceBEq, Int.reduceLT, Int.reduceLE, Int.reduceNeg, Int.reduceToNat, reduceCtorEq, F19, encTy, sameT, n1, n3, h1, h2, h3]
    cases h4 : (x.length == y.length)
    · rw [callL_fn rfl rfl]
      simp only [go_sem, ↓reduceIte, ↓reduceDIte, Nat.reduceAdd, Nat.reduceSub, Nat.reduceMul, Nat.reduceLeDiff, Nat.reduceLT, Nat.reduceEqDiff, Nat.reduceBEq, Int.reduceEq, Int.reduceBEq, Int.reduceLT, Int.reduceLE, Int.reduceNeg, Int.reduceToNat, reduceCtorEq, F19, encTy, sameT, n1, n3, n4, h1, h2, h3, h4, encTys_len]
    rw [callL_fn rfl rfl]
    have key := fun s1 => loop19 hm ih x y k s n k' s' n' x y [] [] rfl rfl rfl (by simpa using h4) (by simp [allT] at hb; omega) heap s1
    simp only [go_sem, ↓reduceIte, ↓reduceDIte, Nat.reduceAdd, Nat.reduceSub, Nat.reduceMul, Nat.reduceLeDiff, Nat.reduceLT, Nat.reduceEqDiff, Nat.reduceBEq, Int.reduceEq, Int.reduceBEq, Int.reduceLT, Int.reduceLE, Int.reduceNeg, Int.reduceToNat, reduceCtorEq, F19, encTy, sameT, n1, n3, n4, h1, h2, h3, h4, encTys_len]
    generalize hL : runL noPr tab _ (.loop B19_0) _ = R
    have e : End19 (.mk k s n x) (.mk k' s' n' y) x y heap R (sames x y) := by
      rw [← hL]
      exact key _ rfl (by simp only [go_sem, ↓reduceIte, ↓reduceDIte, Nat.reduceAdd, Nat.reduceSub, Nat.reduceMul, Nat.reduceLeDiff, Nat.reduceLT, Nat.reduceEqDiff, Nat.reduceBEq, Int.reduceEq, Int.reduceBEq, Int.reduceLT, Int.reduceLE, Int.reduceNeg, Int.reduceToNat, reduceCtorEq, C19, encTy]; rfl)
    cases h5 : sames x y with
    | true =>
      rw [h5] at e
      obtain ⟨J, K, rfl⟩ := e
      simp only [go_sem, ↓reduceIte, ↓reduceDIte, Nat.reduceAdd, Nat.reduceSub, Nat.reduceMul, Nat.reduceLeDiff, Nat.reduceLT, Nat.reduceEqDiff, Nat.reduceBEq, Int.reduceEq, Int.reduceBEq, Int.reduceLT, Int.reduceLE, Int.reduceNeg, Int.reduceToNat, reduceCtorEq, C19]
    | false =>
      rw [h5] at e
      obtain ⟨J, K, rfl⟩ := e
      simp only [go_sem, ↓reduceIte, ↓reduceDIte, Nat.reduceAdd, Nat.reduceSub, Nat.reduceMul, Nat.reduceLeDiff, Nat.reduceLT, Nat.reduceEqDiff, Nat.reduceBEq, Int.reduceEq, Int.reduceBEq, Int.reduceLT, Int.reduceLE, Int.reduceNeg, Int.reduceToNat, reduceCtorEq, D19]

theorem same19 : ∀ m, m < 2 ^ 31 → P19 m
  | 0, _ => fun t u h => by have := allT_len t; omega
  | m + 1, h => same19_step (by omega) (same19 m (by omega))

/-! ### both readers -/

/-- as great as its tokens -/
def fitsR (l : List Tok) (i : Nat) : PR → Prop
  | .ok j t => i < j ∧ j ≤ l.length ∧ (allT t).length ≤ j - i
  | .fail _ _ => True
def fitsRs (l : List Tok) (i : Nat) : PRs → Prop
  | .ok j ts => i ≤ j ∧ j ≤ l.length ∧ (allTs ts).length ≤ j - i
  | .fail _ _ => True

theorem both {l : List Tok} (hl : l.length < 2 ^ 30) : ∀ m, (∀ i d, l.length - i < m → d ≤ 40 → (∃ r, PAtom l i d r ∧ RTyp l i d true r ∧ fitsR l i r) ∧ (∃ r, PTyp l i d r ∧ RTyp l i d false r ∧ fitsR l i r)) ∧
    (∀ i d, l.length - i < m → i ≤ l.length → d ≤ 40 → ∃ r, PLoop l i d r ∧ RLoop l i d r ∧ fitsRs l i r)
  | 0 => ⟨fun i d h => by omega, fun i d h => by omega⟩
  | m + 1 => by
    obtain ⟨ih1, ih2⟩ := both hl m
    have hl' : l.length < 2 ^ 60 := by omega
    have atom : ∀ i d, l.length - i < m + 1 → d ≤ 40 → (nowT l i).kind ≠ 3 → ∃ r, PAtom l i d r ∧ (∀ at_, RTyp l i d at_ r) ∧ fitsR l i r := by
      intro i d hi hd k3
      by_cases k2 : (nowT l i).kind = 2
      · have := kind_lt (k := 2) (by decide) k2
        exact ⟨_, atom_low hl' k2, fun _ => rtyp_low hl' k2, by simp [fitsR, allT, allTs]; omega⟩
      have h2 : ((nowT l i).kind == 2) = false := by simpa using k2
      have h3 : ((nowT l i).kind == 3) = false := by simpa using k3
      cases h4 : isT l i 6 [40] with
      | false =>
        by_cases hd' : d = 40
        · subst hd'
          exact ⟨_, atom_deep hl' h2 h3, fun _ => rtyp_not hl' h2 h3 h4, trivial⟩
        · exact ⟨_, atom_not hl' hd hd' h2 h3 h4, fun _ => rtyp_not hl' h2 h3 h4, trivial⟩
      | true =>
        have hlt := isT_lt (by decide) h4
        by_cases hd' : d = 40
        · subst hd'
          exact ⟨_, atom_deep hl' h2 h3, fun _ => rtyp_deep hl' h2 h3 h4, trivial⟩
        · obtain ⟨r, q1, q2, q3⟩ := (ih1 (i + 1) (d + 1) (by omega) (by omega)).2
          refine ⟨_, atom_paren hl' hd hd' h2 h3 h4 q1, fun _ => rtyp_paren hl' (by omega) h2 h3 h4 q2, ?_⟩
          cases r with
          | fail x y => trivial
          | ok j t =>
            simp only [closeR]
            cases hj : isT l j 6 [41] with
            | false => simp only [Bool.false_eq_true, if_false]; trivial
            | true =>
              have := isT_lt (by decide) hj
              simp only [if_true, fitsR] at q3 ⊢
              omega
    have both1 : ∀ i d, l.length - i < m + 1 → d ≤ 40 → (∃ r, PAtom l i d r ∧ RTyp l i d true r ∧ fitsR l i r) ∧ (∃ r, PTyp l i d r ∧ RTyp l i d false r ∧ fitsR l i r) := by
      intro i d hi hd
      by_cases k3 : (nowT l i).kind = 3
      · have hlt := kind_lt (k := 3) (by decide) k3
        refine ⟨⟨_, atom_up hl' k3, rtyp_up hl' k3, by simp [fitsR, allT, allTs]; omega⟩, ?_⟩
        obtain ⟨r, q1, q2, q3⟩ := ih2 (i + 1) d (by omega) (by omega) hd
        refine ⟨_, typ_con hl' k3 (atoms_of q1), rtyp_con hl' k3 (rtypes_of q2), ?_⟩
        cases r with
        | fail x y => trivial
        | ok j ts => simp only [conR, fitsR, fitsRs, allT, List.length_cons] at q3 ⊢; omega
      · have h3 : ((nowT l i).kind == 3) = false := by simpa using k3
        obtain ⟨r, q1, q2, q3⟩ := atom i d hi hd k3
        exact ⟨⟨r, q1, q2 true, q3⟩, ⟨r, typ_atom hl' h3 q1, q2 false, q3⟩⟩
    refine ⟨both1, fun i d hi hil hd => ?_⟩
    cases hs : startsT l i with
    | false => exact ⟨_, loop_end hl hs, rloop_end hl hs, by simp [fitsRs, allTs]; omega⟩
    | true =>
      obtain ⟨r, q1, q2, q3⟩ := (both1 i d hi hd).1
      cases r with
      | fail x y => exact ⟨_, loop_fail hl hil hs q1, rloop_fail hl hil hs q2, trivial⟩
      | ok j t =>
        simp only [fitsR] at q3
        obtain ⟨rs, p1, p2, p3⟩ := ih2 j d (by omega) (by omega) hd
        refine ⟨_, loop_more hl hil hs q1 q3.1 p1, rloop_more hl hil hs q2 q3.1 p2, ?_⟩
        cases rs with
        | fail x y => trivial
        | ok k ts => simp only [consR, fitsRs, allTs, List.length_append] at p3 ⊢; omega

/-- the type that begins at any place of any tokens, by both -/
theorem both_at {l : List Tok} (hl : l.length < 2 ^ 30) (i : Nat) : ∃ r, PTyp l i 0 r ∧ RTyp l i 0 false r ∧ fitsR l i r :=
  ((both hl (l.length - i + 1)).1 i 0 (by omega) (by omega)).2

end Go.Proofs.Ytgaleaihhhdlgaa.MT
