/- ModuleTypes: for every tokens, place and two types that are together of bulk at most 1048576, the law returns true, and its arguments read as they did. -/
import Derived.Test.YtgaleaihhhdlgaaMtb
import Derived.Test.YtgaleaihhhdlgaaPm6
import Derived.Test.YtgaleaihhhdlgaaTb2
import Derived.Test.YtgaleaihhhdlgaaRows
import Derived.Eval

set_option linter.unusedVariables false
set_option linter.unusedSimpArgs false

namespace Go.Proofs.Ytgaleaihhhdlgaa.MT
open Go.PM Go.Proofs.Ytgaleaihhhdlgaa.Pm

def isTrue : Option (Out × List HObj) → Bool
  | some (.ret (.bool b), _) => b
  | _ => false

theorem awake_run : isTrue (callN noPr tab 400 14 [] []) = true := by kernel_rfl

theorem awake_eq : ∃ h, callL noPr tab 14 [] [] = some (.ret (.bool true), h) := by
  have h := awake_run
  generalize hx : callN noPr tab 400 14 [] [] = x at h
  match x, h with
  | some (.ret (.bool true), h), _ => exact ⟨h, callL_iff.2 ⟨400, hx⟩⟩

theorem law {l : List Tok} (hl : l.length < 2 ^ 30) (i : Int) (a b : Ty) (ha : (allT a).length < 2 ^ 31) (hb : (allT b).length < 2 ^ 31) :
    ∃ h, callL noPr tab 4 [.sl 5 (l.map encTok) .none, .int .i64 i, .agg (encTy a), .agg (encTy b)] [] = some (.ret (.bool true), h) := by
  obtain ⟨h, e0⟩ := awake_eq
  have e1 := all_eq a ha h
  have e2 := all_eq b hb h
  have ta : encTy a = encTy a := rfl
  cases b1 : decide ((l.length : Int) > 200)
  · cases b2 : decide (i > 300)
    · cases b3 : decide (((allT a).length : Int) > 100)
      · cases b4 : decide (((allT b).length : Int) > 100)
        · have ha' : (allT a).length ≤ 100 := by simp at b3; omega
          have s1 := same18 (2 ^ 30) (by omega) a b (by omega)
          have s2 := same19 (2 ^ 30) (by omega) a b (by omega)
          have w : (if i < 0 then (0 : Int) else i) = ((i.toNat : Nat) : Int) := by split <;> omega
          obtain ⟨r, q1, q2, q3⟩ := both_at hl i.toNat
          cases r with
          | fail x y =>
            obtain ⟨h2, e3⟩ := mType_fail (heap := h) i q1
            obtain ⟨j, d', t, e4⟩ := rType_fail (heap := h2) q2
            obtain ⟨k0, n0, r0, a0⟩ := a
            obtain ⟨k1, n1, r1, a1⟩ := b
            obtain ⟨k2, n2, r2, a2⟩ := t
            refine ⟨h2, ?_⟩
            rw [callL_fn rfl rfl]
            have s3 := s1 h2
            have s4 := s2 h2
            simp only [rv, encTy, encTys, zeroTy] at *
            cases hs : sameT (.mk k0 n0 r0 a0) (.mk k1 n1 r1 a1) <;> rw [hs] at s3 s4 <;> simp only [go_sem, ↓reduceIte, ↓reduceDIte, Nat.reduceAdd, Nat.reduceSub, Nat.reduceMul, Nat.reduceLeDiff, Nat.reduceLT, Nat.reduceEqDiff, Nat.reduceBEq, Int.reduceEq, Int.reduceBEq, Int.reduceLT, Int.reduceLE, Int.reduceNeg, Int.reduceToNat, reduceCtorEq, F4, List.length_map, encTys_len, e0, e1, e2, b1, b2, b3, b4, w, e3, e4, s3, s4]
          | ok j t =>
            obtain ⟨h2, e3⟩ := mType_ok (heap := h) i q1
            have e4 := rType_ok (heap := h2) q2
            have s5 := same19 (2 ^ 30) (by omega) t t (by simp only [fitsR] at q3; omega) h2
            rw [sameT_refl] at s5
            obtain ⟨k0, n0, r0, a0⟩ := a
            obtain ⟨k1, n1, r1, a1⟩ := b
            obtain ⟨k2, n2, r2, a2⟩ := t
            refine ⟨h2, ?_⟩
            rw [callL_fn rfl rfl]
            have s3 := s1 h2
            have s4 := s2 h2
            simp only [rv, encTy] at *
            cases hs : sameT (.mk k0 n0 r0 a0) (.mk k1 n1 r1 a1) <;> rw [hs] at s3 s4 <;> simp only [go_sem, ↓reduceIte, ↓reduceDIte, Nat.reduceAdd, Nat.reduceSub, Nat.reduceMul, Nat.reduceLeDiff, Nat.reduceLT, Nat.reduceEqDiff, Nat.reduceBEq, Int.reduceEq, Int.reduceBEq, Int.reduceLT, Int.reduceLE, Int.reduceNeg, Int.reduceToNat, reduceCtorEq, F4, List.length_map, encTys_len, e0, e1, e2, b1, b2, b3, b4, w, e3, e4, s3, s4, s5]
        · obtain ⟨k0, n0, r0, a0⟩ := a
          obtain ⟨k1, n1, r1, a1⟩ := b
          refine ⟨h, ?_⟩
          rw [callL_fn rfl rfl]
          simp only [encTy] at *
          simp only [go_sem, ↓reduceIte, ↓reduceDIte, Nat.reduceAdd, Nat.reduceSub, Nat.reduceMul, Nat.reduceLeDiff, Nat.reduceLT, Nat.reduceEqDiff, Nat.reduceBEq, Int.reduceEq, Int.reduceBEq, Int.reduceLT, Int.reduceLE, Int.reduceNeg, Int.reduceToNat, reduceCtorEq, F4, List.length_map, encTys_len, e0, e1, e2, b1, b2, b3, b4]
      · obtain ⟨k0, n0, r0, a0⟩ := a
        obtain ⟨k1, n1, r1, a1⟩ := b
        refine ⟨h, ?_⟩
        rw [callL_fn rfl rfl]
        simp only [encTy] at *
        simp only [go_sem, ↓reduceIte, ↓reduceDIte, Nat.reduceAdd, Nat.reduceSub, Nat.reduceMul, Nat.reduceLeDiff, Nat.reduceLT, Nat.reduceEqDiff, Nat.reduceBEq, Int.reduceEq, Int.reduceBEq, Int.reduceLT, Int.reduceLE, Int.reduceNeg, Int.reduceToNat, reduceCtorEq, F4, List.length_map, encTys_len, e0, e1, e2, b1, b2, b3]
    · obtain ⟨k0, n0, r0, a0⟩ := a
      obtain ⟨k1, n1, r1, a1⟩ := b
      refine ⟨h, ?_⟩
      rw [callL_fn rfl rfl]
      simp only [encTy] at *
      simp only [go_sem, ↓reduceIte, ↓reduceDIte, Nat.reduceAdd, Nat.reduceSub, Nat.reduceMul, Nat.reduceLeDiff, Nat.reduceLT, Nat.reduceEqDiff, Nat.reduceBEq, Int.reduceEq, Int.reduceBEq, Int.reduceLT, Int.reduceLE, Int.reduceNeg, Int.reduceToNat, reduceCtorEq, F4, List.length_map, e0, b1, b2]
  · obtain ⟨k0, n0, r0, a0⟩ := a
    obtain ⟨k1, n1, r1, a1⟩ := b
    refine ⟨h, ?_⟩
    rw [callL_fn rfl rfl]
    simp only [encTy] at *
    simp only [go_sem, ↓reduceIte, ↓reduceDIte, Nat.reduceAdd, Nat.reduceSub, Nat.reduceMul, Nat.reduceLeDiff, Nat.reduceLT, Nat.reduceEqDiff, Nat.reduceBEq, Int.reduceEq, Int.reduceBEq, Int.reduceLT, Int.reduceLE, Int.reduceNeg, Int.reduceToNat, reduceCtorEq, F4, List.length_map, e0, b1]

end Go.Proofs.Ytgaleaihhhdlgaa.MT

/- ModuleTypes: for every tokens, place and two types, together of bulk at most 1048576, the law returns true, and its arguments read as they did. -/
namespace Go.Proofs.Ytgaleaihhhdlgaa.MT
open Go.PM Go.ChangeShapes Go.WideShapes Go.ChangeAt Go.RowKit Go.Proofs.Ytgaleaihhhdlgaa.Pm

section
variable {H : Type} {enc : TypeId × Value → H} {W : World} {fuel : Nat} {cs : List Value} {x : DataW H × List MemPlace}

theorem cells3 : Try.prog.cellsOf 3 = 1 := by kernel_rfl
theorem cells9 : Try.prog.cellsOf 9 = 1 := by kernel_rfl
theorem cells25 : Try.prog.cellsOf 25 = 2 := by kernel_rfl
theorem cells37 : Try.prog.cellsOf 37 = 1 := by kernel_rfl
theorem cells39 : Try.prog.cellsOf 39 = 4 := by kernel_rfl
theorem cells101 : Try.prog.cellsOf 101 = 5 := by kernel_rfl

theorem read_pos (h : DataW.trod enc Try.prog W 0 (fun _ => true) true fuel 25 cs = some x) : ∃ a b, RVL (G0 W) [.int .i64 a, .int .i64 b] cs := by
  obtain ⟨xs, n, _, _, hlen, _, hf⟩ := read_struct Try.underlying25 h
  obtain ⟨y0, _, h0⟩ := hf 0 3 0 1 rfl cells3
  obtain ⟨y1, _, h1⟩ := hf 1 3 1 1 rfl cells3
  obtain ⟨a, r0, _⟩ := read_int Try.underlying3 h0
  obtain ⟨b, r1, _⟩ := read_int Try.underlying3 h1
  exact ⟨a, b, r0.part (r1.part (.done (by rw [hlen, cells25]; exact Nat.le_refl _)))⟩

theorem read_tok (h : DataW.trod enc Try.prog W 0 (fun _ => true) true fuel 101 cs = some x) : ∃ t : Tok, RVL (G0 W) (encTok t) cs ∧ True := by
  obtain ⟨xs, n, _, _, hlen, _, hf⟩ := read_struct Try.underlying101 h
  obtain ⟨y0, _, h0⟩ := hf 0 3 0 1 rfl cells3
  obtain ⟨y1, _, h1⟩ := hf 1 9 1 1 rfl cells9
  obtain ⟨y2, _, h2⟩ := hf 2 3 2 1 rfl cells3
  obtain ⟨y3, _, h3⟩ := hf 3 25 3 2 rfl cells25
  obtain ⟨k, r0, _⟩ := read_int Try.underlying3 h0
  obtain ⟨s, r1, _⟩ := read_string Try.underlying9 h1
  obtain ⟨q, r2, _⟩ := read_int Try.underlying3 h2
  obtain ⟨a, b, r3⟩ := read_pos h3
  exact ⟨⟨k, s, q, a, b⟩, r0.part (r1.part (r2.part (r3.part (.done (by rw [hlen, cells101]; exact Nat.le_refl _))))), trivial⟩

theorem read_ty : ∀ (fuel : Nat) (cs : List Value) (x : DataW H × List MemPlace), DataW.trod enc Try.prog W 0 (fun _ => true) true fuel 39 cs = some x → ∃ t : Ty, RVL (G0 W) (encTy t) cs ∧ (allT t).length ≤ Rows.uptoBulk x.1 := by
  intro fuel
  induction fuel using Nat.strongRecOn with
  | ind fuel ih =>
    intro cs x h
    obtain ⟨xs, n, hn, hx, hlen, hxl, hf⟩ := read_struct Try.underlying39 h
    obtain ⟨y0, _, h0⟩ := hf 0 3 0 1 rfl cells3
    obtain ⟨y1, _, h1⟩ := hf 1 9 1 1 rfl cells9
    obtain ⟨y2, _, h2⟩ := hf 2 3 2 1 rfl cells3
    obtain ⟨y3, e3, h3⟩ := hf 3 37 3 1 rfl cells37
    obtain ⟨k, r0, _⟩ := read_int Try.underlying3 h0
    obtain ⟨s, r1, _⟩ := read_string Try.underlying9 h1
    obtain ⟨q, r2, _⟩ := read_int Try.underlying3 h2
    obtain ⟨l, v, hv, r3, hd⟩ := read_slice (fun t : Ty => encTy t) (fun t d => (allT t).length ≤ Rows.uptoBulk d) Try.underlying37 (by rw [cells39]; decide) (fun _ => rfl) h3 (fun n' cs' y hn' hy => ih n' (by omega) cs' y hy)
    have r3' := r3 .none
    rw [cells39] at r3'
    have hmap : ∀ l : List Ty, l.map (fun t => encTy t) = encTys l := by
      intro l
      induction l with
      | nil => rfl
      | cons t r ih => simp [encTys, ih]
    rw [hmap] at r3'
    have r3'' : RVL (G0 W) [.sl 4 (encTys l) .none] ((cs.drop 3).take 1) := by rw [show ((cs.drop 3).take 1) = [v] from hv]; exact .one r3'
    refine ⟨.mk k s q l, r0.part (r1.part (r2.part (r3''.part (.done (by rw [hlen, cells39]; exact Nat.le_refl _))))), ?_⟩
    have hle : ∀ (l : List Ty) (es : List (DataW H)), l.length = es.length → (∀ (i : Nat) a d, l[i]? = some a → es[i]? = some d → (allT a).length ≤ Rows.uptoBulk d) → (allTs l).length ≤ Rows.uptoBulkAll es := by
      intro l
      induction l with
      | nil => intro es _ _; simp [allTs]
      | cons t r ih =>
        intro es hl hq
        cases es with
        | nil => simp at hl
        | cons d es =>
          have q0 := hq 0 t d rfl rfl
          have q1 := ih es (by simpa using hl) (fun i a d h1 h2 => hq (i + 1) a d (by simpa using h1) (by simpa using h2))
          simp only [allTs, List.length_append, Rows.uptoBulkAll]
          omega
    have hy3 : (allTs l).length ≤ Rows.uptoBulk y3.1 := by
      rcases hd with ⟨_, rfl⟩ | ⟨es, spare, e, hl, hq⟩
      · simp [allTs]
      · rw [e]
        have := hle l es hl hq
        simp only [Rows.uptoBulk]
        omega
    have hmem : ∀ (l : List (DataW H)) d, d ∈ l → Rows.uptoBulk d ≤ Rows.uptoBulkAll l := by
      intro l
      induction l with
      | nil => intro d h; cases h
      | cons a r ih =>
        intro d h
        simp only [Rows.uptoBulkAll]
        rcases List.mem_cons.1 h with rfl | h
        · omega
        · have := ih d h; omega
    have hin := hmem (xs.map (·.1)) y3.1 (List.mem_map.2 ⟨y3, List.mem_of_getElem? e3, rfl⟩)
    rw [hx]
    simp only [Rows.uptoBulk, allT, List.length_cons]
    omega

end

theorem bulk_len {H : Type} : ∀ es : List (DataW H), es.length ≤ Rows.uptoBulkAll es
  | [] => by simp [Rows.uptoBulkAll]
  | d :: r => by
    have h1 : 1 ≤ Rows.uptoBulk d := by cases d with
      | lit l => cases l <;> simp [Rows.uptoBulk]
      | _ => simp [Rows.uptoBulk]
    have := bulk_len r
    simp only [List.length_cons, Rows.uptoBulkAll]
    omega

theorem own : ownKnob Try.prog.godebug = none := by kernel_rfl
theorem laid : laidOutB Try.prog = true := by kernel_rfl

theorem params_ok : ∀ t ∈ Try.f4.params.toList, Try.prog.readableRec t = true ∧ t < Try.prog.types.size := by
  rw [Try.params4]
  intro t ht
  simp at ht
  rcases ht with rfl | rfl | rfl | rfl <;> exact ⟨by kernel_rfl, of_decide_eq_true (by kernel_rfl)⟩

set_option maxRecDepth 100000 in
theorem contract (H : Type) (enc : TypeId × Value → H) (W : World) (base : Nat) (args : Array Value) (ds gs : List (DataW H)) (before : List MemPlace)
    (hval : ∀ (j : Nat) t v, Try.f4.params[j]? = some t → args[j]? = some v → Value.okWide Try.prog W .any base t v)
    (hW : DataW.Whole enc Try.prog Try.f4.params.toList Rows.moduleTypesSpec.vars false W args.toList ds gs before) (hk : Rows.uptoSmall H (ds ++ gs) = true) :
    Calls Try.prog 4 args W fun e W' => ∃ v, e = .returned v ∧ Rows.moduleTypesSpec.post enc Try.prog Try.f4 false true false false W args v W' := by
  have hW0 := hW
  obtain ⟨p, q, hA0, hV, rfl, hfz, hnd⟩ := hW
  have hA : DataW.TrodAll enc Try.prog W 0 (fun _ => true) true Try.f4.params.toList args.toList ds p := hA0
  rw [Try.params4] at hA hval
  obtain ⟨v0, vs0, d0, ds0, p0, q0, hargs, rfl, rfl, h0, r0⟩ := trodAll_cons hA
  obtain ⟨v1, vs1, d1, ds1, p1, q1, hargs1, rfl, rfl, h1, r1⟩ := trodAll_cons r0
  obtain ⟨v2, vs2, d2, ds2, p2, q2, hargs2, rfl, rfl, h2, r2⟩ := trodAll_cons r1
  obtain ⟨v3, vs3, d3, ds3, p3, q3, hargs3, rfl, rfl, h3, r3⟩ := trodAll_cons r2
  obtain ⟨rfl, rfl, rfl⟩ := trodAll_nil r3
  subst hargs3; subst hargs2; subst hargs1
  obtain rfl : args = #[v0, v1, v2, v3] := by apply Array.ext'; simpa using hargs
  obtain ⟨rfl, rfl⟩ := trodVars_none hV
  rw [List.append_nil] at hk
  have hbulk : Rows.uptoBulkAll [d0, d1, d2, d3] ≤ 1048576 := of_decide_eq_true hk
  simp only [Rows.uptoBulkAll] at hbulk
  obtain ⟨f0, h0⟩ := h0
  obtain ⟨f1, h1⟩ := h1
  obtain ⟨f2, h2⟩ := h2
  obtain ⟨f3, h3⟩ := h3
  rw [val_slice Try.underlying36 (hval 0 36 v0 rfl rfl)] at h0
  rw [val_int Try.underlying3 (hval 1 3 v1 rfl rfl)] at h1
  obtain ⟨c2, rfl⟩ := val_struct Try.underlying39 (hval 2 39 v2 rfl rfl)
  obtain ⟨c3, rfl⟩ := val_struct Try.underlying39 (hval 3 39 v3 rfl rfl)
  obtain ⟨l, v, hv, e0, hd⟩ := read_slice encTok (fun _ _ => True) Try.underlying36 (by rw [cells101]; decide) (fun _ => rfl) h0 (fun _ _ _ _ h => read_tok h)
  cases hv
  obtain ⟨i, e1, _⟩ := read_int Try.underlying3 h1
  obtain ⟨a, e2, b2⟩ := read_ty f2 c2.toList _ h2
  obtain ⟨b, e3, b3⟩ := read_ty f3 c3.toList _ h3
  have hl : l.length < 2 ^ 30 := by
    rcases hd with ⟨_, rfl⟩ | ⟨es, spare, e, hlen, _⟩
    · decide
    · simp only at e
      rw [e] at hbulk
      simp only [Rows.uptoBulk] at hbulk
      have := bulk_len es
      omega
  simp only at b2 b3
  obtain ⟨h', hrun⟩ := law hl i a b (by omega) (by omega)
  have hc101 := e0 .none
  rw [cells101] at hc101
  have hAV : RVL (G0 W) [.sl 5 (l.map encTok) .none, .int .i64 i, .agg (encTy a), .agg (encTy b)] [v0, v1, .agg c2, .agg c3] := .cons hc101 (.cons e1.val (.cons e2.agg (.one e3.agg)))
  exact law_of (Checked.mixed Try.checked) tab_ok (fun B d => noPr_ok B d) Try.func4 (by kernel_rfl) rfl hW0 rfl laid params_ok rfl Try.underlying4 rfl rfl rfl
    (.of hAV (retRoom_plain (by intro a ha; simp at ha; rcases ha with rfl | rfl | rfl | rfl <;> first | rfl | (cases a; rfl) | (cases b; rfl)))) hrun

end Go.Proofs.Ytgaleaihhhdlgaa.MT

/- ModuleTypes: for every tokens, place and two types that are together of bulk at most 1048576, the law returns true, and its arguments read as they did. -/
namespace Go.Proofs.Ytgaleaihhhdlgaa.MT
open Go.PM Go.ChangeShapes Go.WideShapes Go.ChangeAt Go.RowKit

set_option maxRecDepth 100000 in
theorem lifted (os : Os) (started : os.Started) (H : Type) (enc : TypeId × Value → H) (F : Stop.Interp) :
    ReturnsInHanded {} Try.checked os 4 .any ((Rows.OpenSpec.upto Rows.moduleTypesSpec).pre6 enc Try.prog Try.f4 Rows.moduleTypesUptoRow.domain false) (((Rows.OpenSpec.upto Rows.moduleTypesSpec).at F).post enc Try.prog Try.f4 false true false false) := by
  refine returnsInHanded_of_cond (C := Try.checked) (s := Rows.OpenSpec.upto Rows.moduleTypesSpec) (k := Rows.uptoSmall) rfl own started (by kernel_rfl) Try.func4
    (OpenSpec.witness (enc := enc) (C := Try.checked) (s := Rows.OpenSpec.upto Rows.moduleTypesSpec) (k := Rows.uptoSmall) rfl false ⟨#[], #[.slice none 0 0, .int .i64 0, .agg #[.int .i64 0, .string .empty, .int .i64 0, .slice none 0 0], .agg #[.int .i64 0, .string .empty, .int .i64 0, .slice none 0 0]], []⟩ 8 (by kernel_rfl) (by kernel_rfl) (by kernel_rfl)
      (x := ([.nil, .lit (.int .i64 0), .agg [.lit (.int .i64 0), .lit (.string []), .lit (.int .i64 0), .nil], .agg [.lit (.int .i64 0), .lit (.string []), .lit (.int .i64 0), .nil]], [], [])) (by kernel_rfl) rfl (by kernel_rfl)) ?_
  intro W base args ds gs before hval hW _ hk _
  exact contract H enc W base args ds gs before hval hW hk

theorem proved : Rows.ModuleTypesUptoSaid :=
  OpenClaim.holds_of_cond 4 Try.f4 rfl rfl rfl rfl rfl rfl rfl ⟨rfl, rfl, rfl, rfl, rfl⟩ rfl rfl rfl rfl rfl (by kernel_rfl) Try.func4 (by kernel_rfl)
    (of_decide_eq_true (by kernel_rfl)) (by unfold Func.isWrapper; first | (rw [if_pos (by decide +kernel)]; kernel_rfl) | (rw [if_neg (by decide +kernel)]; exact ⟨rfl, rfl⟩))
    (fun os started H enc _ F => lifted os started H enc F)

end Go.Proofs.Ytgaleaihhhdlgaa.MT
