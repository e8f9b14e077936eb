/- The abstract reading without a count: more rounds never change what came, so there is one answer; and its equations. -/
import Derived.Test.YtgaleaihhhdlgaaPm1
import Derived.Attr
import Derived.Test.YtgaleaihhhdlgaaPm5
import Derived.WideKeyArgs
import Derived.JoinedCond
import Derived.ProofKit
import Derived.OpenShut

set_option linter.unusedVariables false
set_option linter.unusedSimpArgs false

namespace Go.PM

def LE (f g : CallF) : Prop := ∀ a b c r, f a b c = some r → g a b c = some r

theorem LE.refl (f : CallF) : LE f f := fun _ _ _ _ h => h

section
variable {f g : CallF}

theorem readCall_mono (h : LE f g) {k : FuncId} {args : List AV} {heap : List HObj} {v : AV} (e : readCall f k args heap = some v) : readCall g k args heap = some v := by
  unfold readCall at e ⊢
  split at e
  · rename_i r hp hf
    rw [h _ _ _ _ hf]; exact e
  · cases e

theorem stepOp_mono (h : LE f g) {dst : Option Nat} {op : SOp} {s : St} {r : ORes} (e : stepOp f dst op s = some r) : stepOp g dst op s = some r := by
  cases op <;> first | exact e | skip
  case call fo args fl =>
    simp only [stepOp] at e ⊢
    split at e
    · split at e
      · split at e
        · rename_i hc; rw [h _ _ _ _ hc]; exact e
        · rename_i hc; rw [h _ _ _ _ hc]; exact e
        · cases e
      · cases e
    · cases e
  case rcall fo args =>
    simp only [stepOp] at e ⊢
    split at e
    · rw [Option.map_eq_some_iff] at e
      obtain ⟨v, hv, rfl⟩ := e
      rw [readCall_mono h hv]; rfl
    · cases e

theorem runOps_mono (h : LE f g) : ∀ {l : List SOper} {s : St} {r : Ex × St}, runOps f l s = some r → runOps g l s = some r
  | [], s, r, e => e
  | o :: l, s, r, e => by
    simp only [runOps] at e ⊢
    split at e
    · split at e
      · rename_i hs; rw [stepOp_mono h hs]; exact runOps_mono h e
      · rename_i hs; rw [stepOp_mono h hs]; exact runOps_mono h e
      · rename_i hs; rw [stepOp_mono h hs]; exact e
      · cases e
    · exact runOps_mono h e
    · cases e

theorem readAt_mono (h : LE f g) {s : St} {q : Rq} {v : AV} (e : readAt f s q = some v) : readAt g s q = some v := by
  cases q with
  | ld a ag n => exact e
  | rc k args => exact readCall_mono h e

theorem rdOk_mono (h : LE f g) {s : St} {r : Rd} (e : rdOk f s r = true) : rdOk g s r = true := by
  unfold rdOk at e ⊢
  split at e
  · rename_i hv; rw [readAt_mono h hv]; exact e
  · cases e

theorem pastOk_mono (h : LE f g) {lo : Nat} {r : Rd} : ∀ {l : List St}, pastOk f lo r l = true → pastOk g lo r l = true
  | [], e => e
  | s :: q, e => by
    simp only [pastOk, Bool.and_eq_true] at e ⊢
    refine ⟨?_, pastOk_mono h e.2⟩
    have := e.1
    split at this
    · rename_i hh; rw [if_pos hh]; exact rdOk_mono h this
    · rename_i hh; rw [if_neg hh]

theorem futOk_mono (h : LE f g) {k : Nat} {s : St} : ∀ {l : List Rd}, futOk f k s l = true → futOk g k s l = true
  | [], e => e
  | r :: q, e => by
    simp only [futOk, Bool.and_eq_true] at e ⊢
    refine ⟨?_, futOk_mono h e.2⟩
    have := e.1
    split at this
    · rename_i hh; rw [if_pos hh]; exact rdOk_mono h this
    · rename_i hh; rw [if_neg hh]

theorem preAlloc_mono (h : LE f g) : ∀ {l : List SOper} {s s' : St}, preAlloc f l s = some s' → preAlloc g l s = some s'
  | [], s, s', e => e
  | o :: l, s, s', e => by
    simp only [preAlloc] at e ⊢
    split at e
    · split at e
      · rename_i hs
        rw [stepOp_mono h hs]; exact preAlloc_mono h e
      · cases e
    · cases e
    · exact preAlloc_mono h e

theorem runD_mono (h : LE f g) : ∀ {l : List SOper} {s : St} {hist : List St} {pend : List Rd} {r : Ex × St}, runD f l s hist pend = some r → runD g l s hist pend = some r
  | [], s, hist, pend, r, e => e
  | o :: l, s, hist, pend, r, e => by
    simp only [runD] at e ⊢
    split at e
    · rename_i ha; rw [if_pos ha]; exact runD_mono h e
    · rename_i ha
      rw [if_neg ha]
      split at e
      · split at e
        · rename_i hs
          rw [stepOp_mono h hs]
          simp only []
          split at e
          · rename_i he
            rw [if_pos he]
            split at e
            · rename_i hf; rw [if_pos (futOk_mono h hf)]; exact runD_mono h e
            · cases e
          · rename_i he
            rw [if_neg he]
            split at e
            · split at e
              · rename_i hp; rw [if_pos (pastOk_mono h hp)]; exact runD_mono h e
              · cases e
            · exact runD_mono h e
        · rename_i hs
          rw [stepOp_mono h hs]
          simp only []
          split at e
          · rename_i he
            rw [if_pos he]
            split at e
            · rename_i hf; rw [if_pos (futOk_mono h hf)]; exact runD_mono h e
            · cases e
          · cases e
        · rename_i hs
          rw [stepOp_mono h hs]; exact e
        · cases e
      · split at e
        · rename_i he
          rw [if_pos he]
          split at e
          · rename_i hf; rw [if_pos (futOk_mono h hf)]; exact runD_mono h e
          · cases e
        · rename_i he
          rw [if_neg he]; exact runD_mono h e
      · cases e

theorem runReg_mono (h : LE f g) {l : List SOper} {d : Bool} {s : St} {r : Ex × St} (e : runReg f l d s = some r) : runReg g l d s = some r := by
  unfold runReg at e ⊢
  split at e
  · exact runOps_mono h e
  · split at e
    · rename_i hp; rw [preAlloc_mono h hp]; exact runD_mono h e
    · cases e

end

/-! ### functions over bodies -/

abbrev BodyF := SF → St → Option (Ex × St)
def LB (f g : BodyF) : Prop := ∀ a b r, f a b = some r → g a b = some r

section
variable {f g : BodyF} {Pg : FuncId → Option SF}

theorem callD_mono (h : LB f g) {k : AV} {args : List AV} {pan : Option AV} {heap : List HObj} {r : Option AV × List HObj} (e : callD f Pg k args pan heap = some r) : callD g Pg k args pan heap = some r := by
  unfold callD at e ⊢
  split at e
  · split at e
    · split at e
      · split at e
        · rename_i hb; simp only [h _ _ _ hb]; exact e
        · rename_i hb; simp only [h _ _ _ hb]; exact e
        · cases e
      · cases e
    · cases e
  · cases e

theorem runDefers_mono (h : LB f g) : ∀ {l : List (AV × List AV)} {pan : Option AV} {heap : List HObj} {r : Option AV × List HObj}, runDefers f Pg l pan heap = some r → runDefers g Pg l pan heap = some r
  | [], _, _, _, e => e
  | (k, args) :: l, pan, heap, r, e => by
    simp only [runDefers] at e ⊢
    split at e
    · rename_i hc; rw [callD_mono h hc]; exact runDefers_mono h e
    · cases e

theorem finish_mono (h : LB f g) {F : SF} {s : St} {pan : Option AV} {r : Out × List HObj} (e : finish f Pg F s pan = some r) : finish g Pg F s pan = some r := by
  unfold finish at e ⊢
  split at e
  · rename_i hd; rw [runDefers_mono h hd]; exact e
  · rename_i hd; rw [runDefers_mono h hd]; exact e
  · cases e

theorem runBody_mono (h : LB f g) {k : FuncId} {args : List AV} {heap : List HObj} {r : Out × List HObj} (e : runBody f Pg k args heap = some r) : runBody g Pg k args heap = some r := by
  unfold runBody at e ⊢
  split at e
  · split at e
    · split at e
      · rename_i hb; simp only [h _ _ _ hb]; exact finish_mono h e
      · rename_i hb; simp only [h _ _ _ hb]; exact finish_mono h e
      · rename_i hb; simp only [h _ _ _ hb]; exact finish_mono h e
      · cases e
    · cases e
  · cases e

end

section
variable {Pr : Prims} {Pg : FuncId → Option SF}

theorem callN_le_of {n m : Nat} (h : ∀ keep c s r, run Pr Pg n keep c s = some r → run Pr Pg m keep c s = some r) : LE (callN Pr Pg n) (callN Pr Pg m) := by
  intro a b c r e
  unfold callN at e ⊢
  split at e
  · exact e
  · exact runBody_mono (fun F s r h' => h _ _ _ _ h') e

theorem run_eq (n : Nat) (keep : List Nat) (c : SC) (s : St) : run Pr Pg (n + 1) keep c s = match c with
    | .skip => some (.norm, s)
    | .label _ => some (.norm, s)
    | .region ops draw => runReg (callN Pr Pg n) ops draw s
    | .seq a b => match run Pr Pg n keep a s with
      | some (.norm, s') => run Pr Pg n keep b s'
      | r => r
    | .cond v a b => match ev s v with
      | .bool true => run Pr Pg n keep a s
      | .bool false => run Pr Pg n keep b s
      | _ => none
    | .block id b => match run Pr Pg n keep b s with
      | some (.brk i, s') => if i = id then some (.norm, s') else some (.brk i, s')
      | r => r
    | .loop b => if strays keep s.loc (clr keep .undef 0 s.tmps) then none else match run Pr Pg n keep b (s.clear keep) with
      | some (.norm, s') => run Pr Pg n keep (.loop b) s'
      | r => r
    | .exit id => some (.brk id, s)
    | .goto l => some (.goto l, s)
    | .ret => some (.ret, s)
    | .scope b => run Pr Pg n keep (.inscope b b) s
    | .inscope b c => match run Pr Pg n keep c s with
      | some (.goto l, s') => match findLabel b l with
        | some r => if strays keep s'.loc (clr keep .undef 0 s'.tmps) then none else run Pr Pg n keep (.inscope b r) (s'.clear keep)
        | none => some (.goto l, s')
      | r => r := by
  cases c <;> rfl

theorem run_succ {n : Nat} : ∀ {keep : List Nat} {c : SC} {s : St} {r : Ex × St}, run Pr Pg n keep c s = some r → run Pr Pg (n + 1) keep c s = some r := by
  induction n with
  | zero => intro keep c s r h; simp [run] at h
  | succ n ih =>
    intro keep c s r h
    have hl : LE (callN Pr Pg n) (callN Pr Pg (n + 1)) := callN_le_of fun keep c s r h => ih h
    rw [run_eq] at h
    rw [run_eq]
    cases c with
    | skip => exact h
    | label => exact h
    | exit => exact h
    | goto => exact h
    | ret => exact h
    | region ops d => exact runReg_mono hl h
    | seq a b =>
      simp only [] at h ⊢
      split at h
      · rename_i ha; rw [ih ha]; exact ih h
      · rename_i hno
        cases ha : run Pr Pg n keep a s with
        | none => rw [ha] at h; cases h
        | some x =>
          rw [ih ha]
          obtain ⟨ex, s'⟩ := x
          rw [ha] at h
          cases ex <;> first | exact h | exact absurd ha (hno _)
    | cond v a b =>
      simp only [] at h ⊢
      split at h <;> first | exact ih h | cases h
    | block id b =>
      simp only [] at h ⊢
      split at h
      · rename_i ha; rw [ih ha]; exact h
      · rename_i hno
        cases ha : run Pr Pg n keep b s with
        | none => rw [ha] at h; cases h
        | some x =>
          rw [ih ha]
          obtain ⟨ex, s'⟩ := x
          rw [ha] at h
          cases ex <;> first | exact h | exact absurd ha (hno _ _)
    | loop b =>
      simp only [] at h ⊢
      split at h
      · cases h
      · rename_i hs
        rw [if_neg hs]
        split at h
        · rename_i ha; rw [ih ha]; exact ih h
        · rename_i hno
          cases ha : run Pr Pg n keep b (s.clear keep) with
          | none => rw [ha] at h; cases h
          | some x =>
            rw [ih ha]
            obtain ⟨ex, s'⟩ := x
            rw [ha] at h
            cases ex <;> first | exact h | exact absurd ha (hno _)
    | scope b => exact ih h
    | inscope b c =>
      simp only [] at h ⊢
      split at h
      · rename_i ha
        rw [ih ha]
        simp only []
        split at h
        · split at h
          · cases h
          · rename_i hs; rw [if_neg hs]; exact ih h
        · exact h
      · rename_i hno
        cases ha : run Pr Pg n keep c s with
        | none => rw [ha] at h; cases h
        | some x =>
          rw [ih ha]
          obtain ⟨ex, s'⟩ := x
          rw [ha] at h
          cases ex <;> first | exact h | exact absurd ha (hno _ _)

theorem run_le {n m : Nat} (hnm : n ≤ m) {keep : List Nat} {c : SC} {s : St} {r : Ex × St} (h : run Pr Pg n keep c s = some r) : run Pr Pg m keep c s = some r := by
  induction hnm with
  | refl => exact h
  | step _ ih => exact run_succ ih

theorem callN_le {n m : Nat} (hnm : n ≤ m) : LE (callN Pr Pg n) (callN Pr Pg m) := callN_le_of fun _ _ _ _ h => run_le hnm h

variable (Pr Pg)

open Classical in
/-- the code's answer, if there is one -/
noncomputable def runL (keep : List Nat) (c : SC) (s : St) : Option (Ex × St) :=
  if h : ∃ r n, run Pr Pg n keep c s = some r then some h.choose else none

noncomputable def callL (f : FuncId) (args : List AV) (heap : List HObj) : Option (Out × List HObj) :=
  match Pr f with
  | some p => p args heap
  | none => runBody (fun F s => runL Pr Pg F.keep F.body s) Pg f args heap

variable {Pr Pg}

theorem runL_iff {keep : List Nat} {c : SC} {s : St} {r : Ex × St} : runL Pr Pg keep c s = some r ↔ ∃ n, run Pr Pg n keep c s = some r := by
  unfold runL
  constructor
  · intro h
    split at h
    · rename_i hh
      cases h
      exact hh.choose_spec
    · cases h
  · rintro ⟨n, h⟩
    have hh : ∃ r n, run Pr Pg n keep c s = some r := ⟨r, n, h⟩
    rw [dif_pos hh]
    obtain ⟨m, hm⟩ := hh.choose_spec
    have h1 := run_le (Nat.le_max_left n m) h
    have h2 := run_le (Nat.le_max_right n m) hm
    rw [h1] at h2
    exact h2.symm

/-- what needs an answer of `runL` needs it of some count -/
def Cont (p : Nat → Prop) : Prop := ∃ n, ∀ m, n ≤ m → p m

theorem Cont.and {p q : Nat → Prop} (h : Cont p) (k : Cont q) : Cont fun n => p n ∧ q n :=
  let ⟨a, ha⟩ := h; let ⟨b, hb⟩ := k
  ⟨max a b, fun m hm => ⟨ha m (by omega), hb m (by omega)⟩⟩
theorem Cont.mono {p q : Nat → Prop} (h : Cont p) (hh : ∀ n, p n → q n) : Cont q := let ⟨a, ha⟩ := h; ⟨a, fun m hm => hh m (ha m hm)⟩
theorem Cont.of {p : Nat → Prop} (h : ∀ n, p n) : Cont p := ⟨0, fun m _ => h m⟩

/-- the limit of a chain -/
def LimB (B : Nat → BodyF) (f : BodyF) : Prop := ∀ F s r, f F s = some r → Cont fun n => B n F s = some r
def LimC (C : Nat → CallF) (f : CallF) : Prop := ∀ k a h r, f k a h = some r → Cont fun n => C n k a h = some r

theorem runL_lim : LimB (fun n F s => run Pr Pg n F.keep F.body s) (fun F s => runL Pr Pg F.keep F.body s) := by
  intro F s r h
  obtain ⟨n, hn⟩ := runL_iff.1 h
  exact ⟨n, fun m hm => run_le hm hn⟩

section
variable {Bn : Nat → BodyF} {f : BodyF}

theorem callD_cont (hB : LimB Bn f) {k : AV} {args : List AV} {pan : Option AV} {heap : List HObj} {r : Option AV × List HObj} (e : callD f Pg k args pan heap = some r) : Cont fun n => callD (Bn n) Pg k args pan heap = some r := by
  unfold callD at e
  split at e
  · split at e
    · rename_i hF
      split at e
      · rename_i he
        split at e
        · rename_i hb; exact (hB _ _ _ hb).mono fun n hn => by simp only [callD, hF, he, hn]; exact e
        · rename_i hb; exact (hB _ _ _ hb).mono fun n hn => by simp only [callD, hF, he, hn]; exact e
        · cases e
      · cases e
    · cases e
  · cases e

theorem runDefers_cont (hB : LimB Bn f) : ∀ {l : List (AV × List AV)} {pan : Option AV} {heap : List HObj} {r : Option AV × List HObj}, runDefers f Pg l pan heap = some r → Cont fun n => runDefers (Bn n) Pg l pan heap = some r
  | [], _, _, _, e => Cont.of fun _ => e
  | (k, args) :: l, pan, heap, r, e => by
    simp only [runDefers] at e ⊢
    split at e
    · rename_i hc
      exact ((callD_cont hB hc).and (runDefers_cont hB e)).mono fun n ⟨h1, h2⟩ => by rw [h1]; exact h2
    · cases e

theorem finish_cont (hB : LimB Bn f) {F : SF} {s : St} {pan : Option AV} {r : Out × List HObj} (e : finish f Pg F s pan = some r) : Cont fun n => finish (Bn n) Pg F s pan = some r := by
  unfold finish at e
  split at e
  · rename_i hd; exact (runDefers_cont hB hd).mono fun n hn => by unfold finish; rw [hn]; exact e
  · rename_i hd; exact (runDefers_cont hB hd).mono fun n hn => by unfold finish; rw [hn]; exact e
  · cases e

theorem runBody_cont (hB : LimB Bn f) {k : FuncId} {args : List AV} {heap : List HObj} {r : Out × List HObj} (e : runBody f Pg k args heap = some r) : Cont fun n => runBody (Bn n) Pg k args heap = some r := by
  unfold runBody at e
  split at e
  · rename_i hF
    split at e
    · rename_i he
      split at e
      · rename_i hb; exact ((hB _ _ _ hb).and (finish_cont hB e)).mono fun n ⟨h1, h2⟩ => by simp only [runBody, hF, he, h1]; exact h2
      · rename_i hb; exact ((hB _ _ _ hb).and (finish_cont hB e)).mono fun n ⟨h1, h2⟩ => by simp only [runBody, hF, he, h1]; exact h2
      · rename_i hb; exact ((hB _ _ _ hb).and (finish_cont hB e)).mono fun n ⟨h1, h2⟩ => by simp only [runBody, hF, he, h1]; exact h2
      · cases e
    · cases e
  · cases e

end

theorem callL_lim : LimC (callN Pr Pg) (callL Pr Pg) := by
  intro k a h r e
  unfold callL at e
  split at e
  · rename_i p hp
    exact Cont.of fun n => by simp only [callN, hp]; exact e
  · rename_i hp
    exact (runBody_cont runL_lim e).mono fun n hn => by simp only [callN, hp]; exact hn

section
variable {Cn : Nat → CallF} {f : CallF}

theorem readCall_cont (hC : LimC Cn f) {k : FuncId} {args : List AV} {heap : List HObj} {v : AV} (e : readCall f k args heap = some v) : Cont fun n => readCall (Cn n) k args heap = some v := by
  unfold readCall at e
  split at e
  · rename_i hf
    exact (hC _ _ _ _ hf).mono fun n hn => by unfold readCall; rw [hn]; exact e
  · cases e

theorem stepOp_cont (hC : LimC Cn f) {dst : Option Nat} {op : SOp} {s : St} {r : ORes} (e : stepOp f dst op s = some r) : Cont fun n => stepOp (Cn n) dst op s = some r := by
  cases op <;> first | exact Cont.of fun _ => e | skip
  case call fo args fl =>
    simp only [stepOp] at e ⊢
    split at e
    · split at e
      · split at e
        · rename_i hc; exact (hC _ _ _ _ hc).mono fun n hn => by rw [hn]; exact e
        · rename_i hc; exact (hC _ _ _ _ hc).mono fun n hn => by rw [hn]; exact e
        · cases e
      · cases e
    · cases e
  case rcall fo args =>
    simp only [stepOp] at e ⊢
    split at e
    · rw [Option.map_eq_some_iff] at e
      obtain ⟨v, hv, rfl⟩ := e
      exact (readCall_cont hC hv).mono fun n hn => by rw [hn]; rfl
    · cases e

theorem runOps_cont (hC : LimC Cn f) : ∀ {l : List SOper} {s : St} {r : Ex × St}, runOps f l s = some r → Cont fun n => runOps (Cn n) l s = some r
  | [], s, r, e => Cont.of fun _ => e
  | o :: l, s, r, e => by
    simp only [runOps] at e ⊢
    split at e
    · split at e
      · rename_i hs; exact ((stepOp_cont hC hs).and (runOps_cont hC e)).mono fun n ⟨h1, h2⟩ => by rw [h1]; exact h2
      · rename_i hs; exact ((stepOp_cont hC hs).and (runOps_cont hC e)).mono fun n ⟨h1, h2⟩ => by rw [h1]; exact h2
      · rename_i hs; exact (stepOp_cont hC hs).mono fun n h1 => by rw [h1]; exact e
      · cases e
    · exact runOps_cont hC e
    · cases e

theorem readAt_cont (hC : LimC Cn f) {s : St} {q : Rq} {v : AV} (e : readAt f s q = some v) : Cont fun n => readAt (Cn n) s q = some v := by
  cases q with
  | ld a ag n => exact Cont.of fun _ => e
  | rc k args => exact readCall_cont hC e

theorem rdOk_cont (hC : LimC Cn f) {s : St} {r : Rd} (e : rdOk f s r = true) : Cont fun n => rdOk (Cn n) s r = true := by
  unfold rdOk at e ⊢
  split at e
  · rename_i hv; exact (readAt_cont hC hv).mono fun n hn => by rw [hn]; exact e
  · cases e

theorem pastOk_cont (hC : LimC Cn f) {lo : Nat} {r : Rd} : ∀ {l : List St}, pastOk f lo r l = true → Cont fun n => pastOk (Cn n) lo r l = true
  | [], e => Cont.of fun _ => e
  | s :: q, e => by
    simp only [pastOk, Bool.and_eq_true] at e ⊢
    refine Cont.and ?_ (pastOk_cont hC e.2)
    have := e.1
    split at this
    · rename_i hh; simp only [if_pos hh]; exact rdOk_cont hC this
    · rename_i hh; simp only [if_neg hh]; exact Cont.of fun _ => trivial

theorem futOk_cont (hC : LimC Cn f) {k : Nat} {s : St} : ∀ {l : List Rd}, futOk f k s l = true → Cont fun n => futOk (Cn n) k s l = true
  | [], e => Cont.of fun _ => e
  | r :: q, e => by
    simp only [futOk, Bool.and_eq_true] at e ⊢
    refine Cont.and ?_ (futOk_cont hC e.2)
    have := e.1
    split at this
    · rename_i hh; simp only [if_pos hh]; exact rdOk_cont hC this
    · rename_i hh; simp only [if_neg hh]; exact Cont.of fun _ => trivial

theorem preAlloc_cont (hC : LimC Cn f) : ∀ {l : List SOper} {s s' : St}, preAlloc f l s = some s' → Cont fun n => preAlloc (Cn n) l s = some s'
  | [], s, s', e => Cont.of fun _ => e
  | o :: l, s, s', e => by
    simp only [preAlloc] at e ⊢
    split at e
    · split at e
      · rename_i hs
        exact ((stepOp_cont hC hs).and (preAlloc_cont hC e)).mono fun n ⟨h1, h2⟩ => by rw [h1]; exact h2
      · cases e
    · cases e
    · exact preAlloc_cont hC e

theorem runD_cont (hC : LimC Cn f) : ∀ {l : List SOper} {s : St} {hist : List St} {pend : List Rd} {r : Ex × St}, runD f l s hist pend = some r → Cont fun n => runD (Cn n) l s hist pend = some r
  | [], s, hist, pend, r, e => Cont.of fun _ => e
  | o :: l, s, hist, pend, r, e => by
    simp only [runD] at e ⊢
    split at e
    · rename_i ha; simp only [if_pos ha]; exact runD_cont hC e
    · rename_i ha
      simp only [if_neg ha]
      split at e
      · split at e
        · rename_i hs
          have h0 := stepOp_cont hC hs
          split at e
          · rename_i he
            split at e
            · rename_i hf
              exact ((h0.and (futOk_cont hC hf)).and (runD_cont hC e)).mono fun n ⟨⟨h1, h2⟩, h3⟩ => by rw [h1]; simp only [if_pos he, if_pos h2]; exact h3
            · cases e
          · rename_i he
            split at e
            · split at e
              · rename_i hq hp
                exact ((h0.and (pastOk_cont hC hp)).and (runD_cont hC e)).mono fun n ⟨⟨h1, h2⟩, h3⟩ => by rw [h1]; simp only [if_neg he, hq, if_pos h2]; exact h3
              · cases e
            · rename_i hq
              exact (h0.and (runD_cont hC e)).mono fun n ⟨h1, h3⟩ => by rw [h1]; simp only [if_neg he, hq]; exact h3
        · rename_i hs
          have h0 := stepOp_cont hC hs
          split at e
          · rename_i he
            split at e
            · rename_i hf
              exact ((h0.and (futOk_cont hC hf)).and (runD_cont hC e)).mono fun n ⟨⟨h1, h2⟩, h3⟩ => by rw [h1]; simp only [if_pos he, if_pos h2]; exact h3
            · cases e
          · cases e
        · rename_i hs
          exact (stepOp_cont hC hs).mono fun n h1 => by rw [h1]; exact e
        · cases e
      · split at e
        · rename_i he
          split at e
          · rename_i hf
            exact ((futOk_cont hC hf).and (runD_cont hC e)).mono fun n ⟨h2, h3⟩ => by simp only [if_pos he, if_pos h2]; exact h3
          · cases e
        · rename_i he
          exact (runD_cont hC e).mono fun n h3 => by simp only [if_neg he]; exact h3
      · cases e

theorem runReg_cont (hC : LimC Cn f) {l : List SOper} {d : Bool} {s : St} {r : Ex × St} (e : runReg f l d s = some r) : Cont fun n => runReg (Cn n) l d s = some r := by
  unfold runReg at e
  split at e
  · exact (runOps_cont hC e).mono fun n h => by simp only [runReg]; exact h
  · split at e
    · rename_i hp
      exact ((preAlloc_cont hC hp).and (runD_cont hC e)).mono fun n ⟨h1, h2⟩ => by simp only [runReg, h1]; exact h2
    · cases e

end

/-! ### the equations -/

theorem callN_callL (n : Nat) : LE (callN Pr Pg n) (callL Pr Pg) := by
  intro a b c r e
  unfold callN at e
  unfold callL
  split at e
  · rename_i hp; simp only [hp]; exact e
  · rename_i hp; simp only [hp]; exact runBody_mono (fun F s r h => runL_iff.2 ⟨n, h⟩) e

theorem callL_iff {k : FuncId} {a : List AV} {h : List HObj} {r : Out × List HObj} : callL Pr Pg k a h = some r ↔ ∃ n, callN Pr Pg n k a h = some r := by
  constructor
  · intro e
    obtain ⟨n, hn⟩ := callL_lim k a h r e
    exact ⟨n, hn n (Nat.le_refl _)⟩
  · rintro ⟨n, h⟩
    exact callN_callL n _ _ _ _ h

theorem runL_of {keep : List Nat} {c : SC} {s : St} {r : Ex × St} {n : Nat} (h : run Pr Pg n keep c s = some r) : runL Pr Pg keep c s = some r := runL_iff.2 ⟨n, h⟩

theorem opt_ext {α : Type} {x y : Option α} (h1 : ∀ r, x = some r → y = some r) (h2 : ∀ r, y = some r → x = some r) : x = y := by
  cases x with
  | none =>
    cases y with
    | none => rfl
    | some b => exact h2 b rfl
  | some a => exact (h1 a rfl).symm

theorem runL_simple {keep : List Nat} {c : SC} {s : St} {r : Option (Ex × St)} (h : ∀ n, run Pr Pg (n + 1) keep c s = r) : runL Pr Pg keep c s = r := by
  refine opt_ext (fun x hx => ?_) (fun x hx => ?_)
  · obtain ⟨n, hn⟩ := runL_iff.1 hx
    rw [← h n]; exact run_succ hn
  · exact runL_of (n := 1) (by rw [h 0]; exact hx)

theorem runL_skip {keep : List Nat} {s : St} : runL Pr Pg keep .skip s = some (.norm, s) := runL_simple fun _ => rfl
theorem runL_label {keep : List Nat} {l : Nat} {s : St} : runL Pr Pg keep (.label l) s = some (.norm, s) := runL_simple fun _ => rfl
theorem runL_exit {keep : List Nat} {l : Nat} {s : St} : runL Pr Pg keep (.exit l) s = some (.brk l, s) := runL_simple fun _ => rfl
theorem runL_goto {keep : List Nat} {l : Nat} {s : St} : runL Pr Pg keep (.goto l) s = some (.goto l, s) := runL_simple fun _ => rfl
theorem runL_ret {keep : List Nat} {s : St} : runL Pr Pg keep .ret s = some (.ret, s) := runL_simple fun _ => rfl

theorem runL_region {keep : List Nat} {ops : List SOper} {d : Bool} {s : St} : runL Pr Pg keep (.region ops d) s = runReg (callL Pr Pg) ops d s := by
  refine opt_ext (fun x hx => ?_) (fun x hx => ?_)
  · obtain ⟨n, hn⟩ := runL_iff.1 hx
    cases n with
    | zero => simp [run] at hn
    | succ n => rw [run_eq] at hn; exact runReg_mono (callN_callL n) hn
  · obtain ⟨n, hn⟩ := runReg_cont callL_lim hx
    exact runL_of (n := n + 1) (by rw [run_eq]; exact hn n (Nat.le_refl _))

theorem runL_seq {keep : List Nat} {a b : SC} {s : St} : runL Pr Pg keep (.seq a b) s = match runL Pr Pg keep a s with
    | some (.norm, s') => runL Pr Pg keep b s'
    | r => r := by
  refine opt_ext (fun x hx => ?_) (fun x hx => ?_)
  · obtain ⟨n, hn⟩ := runL_iff.1 hx
    cases n with
    | zero => simp [run] at hn
    | succ n =>
      rw [run_eq] at hn
      simp only [] at hn
      cases ha : run Pr Pg n keep a s with
      | none => rw [ha] at hn; cases hn
      | some y =>
        obtain ⟨ex, s'⟩ := y
        rw [ha] at hn
        rw [runL_of ha]
        cases ex <;> first | exact runL_of hn | exact hn
  · cases ha : runL Pr Pg keep a s with
    | none => rw [ha] at hx; cases hx
    | some y =>
      obtain ⟨ex, s'⟩ := y
      rw [ha] at hx
      obtain ⟨n, hn⟩ := runL_iff.1 ha
      cases ex with
      | norm =>
        obtain ⟨m, hm⟩ := runL_iff.1 hx
        refine runL_of (n := max n m + 1) ?_
        rw [run_eq]
        simp only []
        rw [run_le (Nat.le_max_left n m) hn]
        exact run_le (Nat.le_max_right n m) hm
      | _ =>
        refine runL_of (n := n + 1) ?_
        rw [run_eq]
        simp only []
        rw [hn]; exact hx

theorem runL_cond {keep : List Nat} {v : Opd} {a b : SC} {s : St} : runL Pr Pg keep (.cond v a b) s = match ev s v with
    | .bool true => runL Pr Pg keep a s
    | .bool false => runL Pr Pg keep b s
    | _ => none := by
  refine opt_ext (fun x hx => ?_) (fun x hx => ?_)
  · obtain ⟨n, hn⟩ := runL_iff.1 hx
    cases n with
    | zero => simp [run] at hn
    | succ n =>
      rw [run_eq] at hn
      simp only [] at hn
      split at hn <;> first | exact runL_of hn | cases hn
  · split at hx
    · rename_i he
      obtain ⟨n, hn⟩ := runL_iff.1 hx
      exact runL_of (n := n + 1) (by rw [run_eq]; simp only [he]; exact hn)
    · rename_i he
      obtain ⟨n, hn⟩ := runL_iff.1 hx
      exact runL_of (n := n + 1) (by rw [run_eq]; simp only [he]; exact hn)
    · cases hx

theorem runL_block {keep : List Nat} {id : Nat} {b : SC} {s : St} : runL Pr Pg keep (.block id b) s = match runL Pr Pg keep b s with
    | some (.brk i, s') => if i = id then some (.norm, s') else some (.brk i, s')
    | r => r := by
  refine opt_ext (fun x hx => ?_) (fun x hx => ?_)
  · obtain ⟨n, hn⟩ := runL_iff.1 hx
    cases n with
    | zero => simp [run] at hn
    | succ n =>
      rw [run_eq] at hn
      simp only [] at hn
      cases ha : run Pr Pg n keep b s with
      | none => rw [ha] at hn; cases hn
      | some y => rw [ha] at hn; rw [runL_of ha]; exact hn
  · cases ha : runL Pr Pg keep b s with
    | none => rw [ha] at hx; cases hx
    | some y =>
      rw [ha] at hx
      obtain ⟨n, hn⟩ := runL_iff.1 ha
      exact runL_of (n := n + 1) (by rw [run_eq]; simp only [hn]; exact hx)

theorem runL_loop {keep : List Nat} {b : SC} {s : St} (hs : strays keep s.loc (clr keep .undef 0 s.tmps) = false) : runL Pr Pg keep (.loop b) s = match runL Pr Pg keep b (s.clear keep) with
    | some (.norm, s') => runL Pr Pg keep (.loop b) s'
    | r => r := by
  refine opt_ext (fun x hx => ?_) (fun x hx => ?_)
  · obtain ⟨n, hn⟩ := runL_iff.1 hx
    cases n with
    | zero => simp [run] at hn
    | succ n =>
      rw [run_eq] at hn
      simp only [hs, Bool.false_eq_true, if_false] at hn
      cases ha : run Pr Pg n keep b (s.clear keep) with
      | none => rw [ha] at hn; cases hn
      | some y =>
        obtain ⟨ex, s'⟩ := y
        rw [ha] at hn
        rw [runL_of ha]
        cases ex <;> first | exact runL_of hn | exact hn
  · cases ha : runL Pr Pg keep b (s.clear keep) with
    | none => rw [ha] at hx; cases hx
    | some y =>
      obtain ⟨ex, s'⟩ := y
      rw [ha] at hx
      obtain ⟨n, hn⟩ := runL_iff.1 ha
      cases ex with
      | norm =>
        obtain ⟨m, hm⟩ := runL_iff.1 hx
        refine runL_of (n := max n m + 1) ?_
        rw [run_eq]
        simp only [hs, Bool.false_eq_true, if_false]
        rw [run_le (Nat.le_max_left n m) hn]
        exact run_le (Nat.le_max_right n m) hm
      | _ =>
        refine runL_of (n := n + 1) ?_
        rw [run_eq]
        simp only [hs, Bool.false_eq_true, if_false]
        rw [hn]; exact hx

theorem runL_scope {keep : List Nat} {b : SC} {s : St} : runL Pr Pg keep (.scope b) s = runL Pr Pg keep (.inscope b b) s := by
  refine opt_ext (fun x hx => ?_) (fun x hx => ?_)
  · obtain ⟨n, hn⟩ := runL_iff.1 hx
    cases n with
    | zero => simp [run] at hn
    | succ n => rw [run_eq] at hn; exact runL_of hn
  · obtain ⟨n, hn⟩ := runL_iff.1 hx
    exact runL_of (n := n + 1) (by rw [run_eq]; exact hn)

theorem runL_inscope {keep : List Nat} {b c : SC} {s : St} : runL Pr Pg keep (.inscope b c) s = match runL Pr Pg keep c s with
    | some (.goto l, s') => match findLabel b l with
      | some r => if strays keep s'.loc (clr keep .undef 0 s'.tmps) then none else runL Pr Pg keep (.inscope b r) (s'.clear keep)
      | none => some (.goto l, s')
    | r => r := by
  refine opt_ext (fun x hx => ?_) (fun x hx => ?_)
  · obtain ⟨n, hn⟩ := runL_iff.1 hx
    cases n with
    | zero => simp [run] at hn
    | succ n =>
      rw [run_eq] at hn
      simp only [] at hn
      cases ha : run Pr Pg n keep c s with
      | none => rw [ha] at hn; cases hn
      | some y =>
        obtain ⟨ex, s'⟩ := y
        rw [ha] at hn
        rw [runL_of ha]
        cases ex <;> first | exact hn | skip
        simp only [] at hn ⊢
        split at hn
        · split at hn
          · cases hn
          · rename_i hh; rw [if_neg hh]; exact runL_of hn
        · exact hn
  · cases ha : runL Pr Pg keep c s with
    | none => rw [ha] at hx; cases hx
    | some y =>
      obtain ⟨ex, s'⟩ := y
      rw [ha] at hx
      obtain ⟨n, hn⟩ := runL_iff.1 ha
      cases ex with
      | goto l =>
        simp only [] at hx
        split at hx
        · rename_i hf
          split at hx
          · cases hx
          · rename_i hh
            obtain ⟨m, hm⟩ := runL_iff.1 hx
            refine runL_of (n := max n m + 1) ?_
            rw [run_eq]
            simp only []
            rw [run_le (Nat.le_max_left n m) hn]
            simp only [hf]
            rw [if_neg hh]
            exact run_le (Nat.le_max_right n m) hm
        · rename_i hf
          refine runL_of (n := n + 1) ?_
          rw [run_eq]
          simp only []
          rw [hn]
          simp only [hf]; exact hx
      | _ =>
        refine runL_of (n := n + 1) ?_
        rw [run_eq]
        simp only []
        rw [hn]; exact hx

end
end Go.PM

/- Rules by which a run of the abstract reading is worked out. -/
namespace Go.PM

def noPr : Prims := fun _ => none

variable {Pr : Prims} {Pg : FuncId → Option SF}

/-- what a function's run comes to -/
noncomputable def fin (Pr : Prims) (Pg : FuncId → Option SF) (F : SF) : Option (Ex × St) → Option (Out × List HObj)
  | some (.norm, s) => finish (fun F s => runL Pr Pg F.keep F.body s) Pg F s none
  | some (.ret, s) => finish (fun F s => runL Pr Pg F.keep F.body s) Pg F s none
  | some (.pan v, s) => finish (fun F s => runL Pr Pg F.keep F.body s) Pg F s (some v)
  | _ => none

theorem callL_fn {f : FuncId} {F : SF} {args : List AV} {heap : List HObj} {s : St} (hF : Pg f = some F) (he : enter F args none heap = some s) :
    callL noPr Pg f args heap = fin noPr Pg F (runL noPr Pg F.keep F.body s) := by
  unfold callL
  simp only [noPr, runBody, hF, he]
  generalize runL _ Pg F.keep F.body s = r
  cases r with
  | none => rfl
  | some x => obtain ⟨ex, s'⟩ := x; cases ex <;> rfl

theorem fin_norm {F : SF} {s : St} (h : s.defers = []) : fin Pr Pg F (some (.norm, s)) = (results F s).map fun v => (.ret v, s.heap) := by
  cases s; simp only at h; subst h; rfl
theorem fin_ret {F : SF} {s : St} (h : s.defers = []) : fin Pr Pg F (some (.ret, s)) = (results F s).map fun v => (.ret v, s.heap) := by
  cases s; simp only at h; subst h; rfl

theorem getElem?_set_hit {α : Type} {l : List α} {i : Nat} {x y : α} (h : l[i]? = some y) : (l.set i x)[i]? = some x := by
  rw [List.getElem?_set, if_pos rfl, if_pos (List.getElem?_eq_some_iff.1 h).1]

theorem getElem?_snoc {α : Type} (l : List α) (x : α) : (l ++ [x])[l.length]? = some x := by simp
theorem set_snoc {α : Type} (l : List α) (x y : α) : (l ++ [x]).set l.length y = l ++ [y] := by simp

theorem loop_norm {keep : List Nat} {b : SC} {s C s' : St} (hs : strays keep s.loc (clr keep .undef 0 s.tmps) = false) (hc : s.clear keep = C) (hb : runL Pr Pg keep b C = some (.norm, s')) :
    runL Pr Pg keep (.loop b) s = runL Pr Pg keep (.loop b) s' := by rw [runL_loop hs, hc, hb]

theorem runL_loop_at {keep : List Nat} {b : SC} {s C : St} (hs : strays keep s.loc (clr keep .undef 0 s.tmps) = false) (hc : s.clear keep = C) :
    runL Pr Pg keep (.loop b) s = match runL Pr Pg keep b C with
    | some (.norm, s') => runL Pr Pg keep (.loop b) s'
    | r => r := by
  rw [runL_loop hs, hc]
  all_goals
    generalize runL Pr Pg keep b C = x
    cases x with
    | none => rfl
    | some y => obtain ⟨e, s'⟩ := y; cases e <;> rfl

/-- a list whose kept places are known -/
def mix {α : Type} (keep : List Nat) (J : Nat → α) : Nat → List α → List α
  | _, [] => []
  | i, x :: r => (if keep.contains i then x else J i) :: mix keep J (i + 1) r

theorem mix_clr {α : Type} (keep : List Nat) (z : α) (J : Nat → α) : ∀ (l : List α) (i : Nat), (∀ k x, l[k]? = some x → J (i + k) = x) → l = mix keep J i (clr keep z i l)
  | [], i, _ => rfl
  | x :: r, i, h => by
    simp only [clr, mix]
    have h0 := h 0 x rfl
    rw [Nat.add_zero] at h0
    have hr := mix_clr keep z J r (i + 1) fun k y hy => by
      have := h (k + 1) y (by simpa using hy)
      rwa [show i + (k + 1) = i + 1 + k by omega] at this
    rw [← hr]
    by_cases hk : keep.contains i = true
    · rw [if_pos hk, if_pos hk]
    · rw [if_neg hk, h0]

/-- a state of which the kept slots are known -/
def St.junk (keep : List Nat) (J : Nat → AV) (K : Nat → Option (List AV)) (C : St) : St := { C with tmps := mix keep J 0 C.tmps, loc := mix keep K 0 C.loc }

theorem junk_of {keep : List Nat} {s C : St} (h : s.clear keep = C) : ∃ J K, s = C.junk keep J K := by
  refine ⟨fun n => s.tmps.getD n .undef, fun n => s.loc.getD n none, ?_⟩
  subst h
  have h1 := mix_clr keep AV.undef (fun n => s.tmps.getD n .undef) s.tmps 0 fun k x hx => by simp [List.getD_eq_getElem?_getD, hx]
  have h2 := mix_clr keep none (fun n => s.loc.getD n none) s.loc 0 fun k x hx => by simp [List.getD_eq_getElem?_getD, hx]
  simp only [St.junk, St.clear, ← h1, ← h2]

theorem exit_of {keep : List Nat} {e : Ex} {s C : St} (h : s.clear keep = C) : ∃ J K, some (e, s) = some (e, C.junk keep J K) := by
  obtain ⟨J, K, rfl⟩ := junk_of h
  exact ⟨J, K, rfl⟩

theorem loop_out {keep : List Nat} {b : SC} {s C D : St} {e : Nat} (hs : strays keep s.loc (clr keep .undef 0 s.tmps) = false) (hc : s.clear keep = C) (h : ∃ s', runL Pr Pg keep b C = some (.brk e, s') ∧ s'.clear keep = D) :
    ∃ J K, runL Pr Pg keep (.loop b) s = some (.brk e, D.junk keep J K) := by
  obtain ⟨s', h1, h2⟩ := h
  obtain ⟨J, K, rfl⟩ := junk_of h2
  refine ⟨J, K, ?_⟩
  rw [runL_loop_at hs hc, h1]

theorem loop_out2 {keep keep2 : List Nat} {b : SC} {s C D : St} {e : Ex} (hs : strays keep s.loc (clr keep .undef 0 s.tmps) = false) (hc : s.clear keep = C) (he : e ≠ .norm) (h : ∃ s', runL Pr Pg keep b C = some (e, s') ∧ s'.clear keep2 = D) :
    ∃ J K, runL Pr Pg keep (.loop b) s = some (e, D.junk keep2 J K) := by
  obtain ⟨s', h1, h2⟩ := h
  obtain ⟨J, K, rfl⟩ := junk_of h2
  refine ⟨J, K, ?_⟩
  rw [runL_loop_at hs hc, h1]
  cases e <;> first | rfl | exact absurd rfl he

/-- the head of a region in order -/
theorem runOps_cons {callF : CallF} {o : SOper} {r : List SOper} {s : St} : runOps callF (o :: r) s = match wantedS s o.guard with
    | some true => match stepOp callF o.dst o.op s with
      | some (.val v s') => runOps callF r (s'.put o.dst v)
      | some (.skp s') => runOps callF r (s'.put o.dst (.tup []))
      | some (.pan v s') => some (Ex.pan v, s')
      | none => none
    | some false => runOps callF r (s.put o.dst (.tup []))
    | none => none := rfl

theorem runOps_nil {callF : CallF} {s : St} : runOps callF [] s = some (.norm, s) := rfl

/-! ### rules that go on only when what stands ahead is worked out -/

noncomputable def seqE (Pr : Prims) (Pg : FuncId → Option SF) (keep : List Nat) (b : SC) : Option (Ex × St) → Option (Ex × St)
  | some (.norm, s') => runL Pr Pg keep b s'
  | r => r
theorem runL_seqE {keep : List Nat} {a b : SC} {s : St} : runL Pr Pg keep (.seq a b) s = seqE Pr Pg keep b (runL Pr Pg keep a s) := by
  rw [runL_seq]
  generalize runL Pr Pg keep a s = x
  cases x with
  | none => rfl
  | some y => obtain ⟨e, s'⟩ := y; cases e <;> rfl
theorem seqE_norm {keep : List Nat} {b : SC} {s : St} : seqE Pr Pg keep b (some (.norm, s)) = runL Pr Pg keep b s := rfl
theorem seqE_ret {keep : List Nat} {b : SC} {s : St} : seqE Pr Pg keep b (some (.ret, s)) = some (.ret, s) := rfl
theorem seqE_brk {keep : List Nat} {b : SC} {s : St} {i : Nat} : seqE Pr Pg keep b (some (.brk i, s)) = some (.brk i, s) := rfl
theorem seqE_goto {keep : List Nat} {b : SC} {s : St} {i : Nat} : seqE Pr Pg keep b (some (.goto i, s)) = some (.goto i, s) := rfl
theorem seqE_pan {keep : List Nat} {b : SC} {s : St} {v : AV} : seqE Pr Pg keep b (some (.pan v, s)) = some (.pan v, s) := rfl
theorem seqE_none {keep : List Nat} {b : SC} : seqE Pr Pg keep b none = none := rfl

noncomputable def condE (Pr : Prims) (Pg : FuncId → Option SF) (keep : List Nat) (a b : SC) (s : St) : AV → Option (Ex × St)
  | .bool true => runL Pr Pg keep a s
  | .bool false => runL Pr Pg keep b s
  | _ => none
theorem runL_condE {keep : List Nat} {v : Opd} {a b : SC} {s : St} : runL Pr Pg keep (.cond v a b) s = condE Pr Pg keep a b s (ev s v) := by
  rw [runL_cond]
  generalize ev s v = x
  cases x <;> first | rfl | (rename_i b; cases b <;> rfl)
theorem condE_true {keep : List Nat} {a b : SC} {s : St} : condE Pr Pg keep a b s (.bool true) = runL Pr Pg keep a s := rfl
theorem condE_false {keep : List Nat} {a b : SC} {s : St} : condE Pr Pg keep a b s (.bool false) = runL Pr Pg keep b s := rfl

def blockE (id : Nat) : Option (Ex × St) → Option (Ex × St)
  | some (.brk i, s') => if i = id then some (.norm, s') else some (.brk i, s')
  | r => r
theorem runL_blockE {keep : List Nat} {id : Nat} {b : SC} {s : St} : runL Pr Pg keep (.block id b) s = blockE id (runL Pr Pg keep b s) := by
  rw [runL_block]
  generalize runL Pr Pg keep b s = x
  cases x with
  | none => rfl
  | some y => obtain ⟨e, s'⟩ := y; cases e <;> rfl
theorem blockE_norm {id : Nat} {s : St} : blockE id (some (.norm, s)) = some (.norm, s) := rfl
theorem blockE_ret {id : Nat} {s : St} : blockE id (some (.ret, s)) = some (.ret, s) := rfl
theorem blockE_brk {id i : Nat} {s : St} : blockE id (some (.brk i, s)) = if i = id then some (.norm, s) else some (.brk i, s) := rfl
theorem blockE_goto {id i : Nat} {s : St} : blockE id (some (.goto i, s)) = some (.goto i, s) := rfl
theorem blockE_pan {id : Nat} {v : AV} {s : St} : blockE id (some (.pan v, s)) = some (.pan v, s) := rfl
theorem blockE_none {id : Nat} : blockE id none = none := rfl

def opV (callF : CallF) (dst : Option Nat) (r : List SOper) : Option ORes → Option (Ex × St)
  | some (.val v s') => runOps callF r (s'.put dst v)
  | some (.skp s') => runOps callF r (s'.put dst (.tup []))
  | some (.pan v s') => some (Ex.pan v, s')
  | none => none
def opW (callF : CallF) (o : SOper) (r : List SOper) (s : St) : Option Bool → Option (Ex × St)
  | some true => opV callF o.dst r (stepOp callF o.dst o.op s)
  | some false => runOps callF r (s.put o.dst (.tup []))
  | none => none
theorem runOps_E {callF : CallF} {o : SOper} {r : List SOper} {s : St} : runOps callF (o :: r) s = opW callF o r s (wantedS s o.guard) := by
  rw [runOps_cons]
  generalize wantedS s o.guard = x
  cases x with
  | none => rfl
  | some y =>
    cases y with
    | false => rfl
    | true =>
      simp only [opW]
      generalize stepOp callF o.dst o.op s = z
      cases z with
      | none => rfl
      | some z => cases z <;> rfl
theorem opW_true {callF : CallF} {o : SOper} {r : List SOper} {s : St} : opW callF o r s (some true) = opV callF o.dst r (stepOp callF o.dst o.op s) := rfl
theorem opW_false {callF : CallF} {o : SOper} {r : List SOper} {s : St} : opW callF o r s (some false) = runOps callF r (s.put o.dst (.tup [])) := rfl
theorem opV_val {callF : CallF} {dst : Option Nat} {r : List SOper} {v : AV} {s : St} : opV callF dst r (some (.val v s)) = runOps callF r (s.put dst v) := rfl
theorem opV_skp {callF : CallF} {dst : Option Nat} {r : List SOper} {s : St} : opV callF dst r (some (.skp s)) = runOps callF r (s.put dst (.tup [])) := rfl
theorem opV_pan {callF : CallF} {dst : Option Nat} {r : List SOper} {v : AV} {s : St} : opV callF dst r (some (.pan v s)) = some (.pan v, s) := rfl

def dGo (callF : CallF) (r : List SOper) (s : St) (hist : List St) (pend : List Rd) : Bool → Option (Ex × St)
  | true => runD callF r s hist pend
  | false => none
def dRd (callF : CallF) (v : AV) (s' : St) (o : SOper) (r : List SOper) (hist : List St) (pend : List Rd) : Option Rq → Option (Ex × St)
  | some q => dGo callF r (s'.put o.dst v) hist (if hist.length ≤ o.hi then ⟨q, v, o.hi⟩ :: pend else pend) (pastOk callF o.lo ⟨q, v, o.hi⟩ hist.tail)
  | none => runD callF r (s'.put o.dst v) hist pend
def dV (callF : CallF) (v : AV) (s s' : St) (o : SOper) (r : List SOper) (hist : List St) (pend : List Rd) : Bool → Option (Ex × St)
  | true => dGo callF r (s'.put o.dst v) (s' :: hist) pend (futOk callF hist.length s' pend)
  | false => dRd callF v s' o r hist pend (readOf s o.op)
def dK (callF : CallF) (s' : St) (o : SOper) (r : List SOper) (hist : List St) (pend : List Rd) : Bool → Option (Ex × St)
  | true => dGo callF r (s'.put o.dst (.tup [])) (s' :: hist) pend (futOk callF hist.length s' pend)
  | false => none
def dS (callF : CallF) (s : St) (o : SOper) (r : List SOper) (hist : List St) (pend : List Rd) : Option ORes → Option (Ex × St)
  | some (.val v s') => dV callF v s s' o r hist pend (effect o.op)
  | some (.skp s') => dK callF s' o r hist pend (effect o.op)
  | some (.pan v s') => if o.lo = 1 then some (Ex.pan v, { s' with tmps := s'.tmps.map fun _ => .undef, loc := s'.loc.map fun _ => none }) else none
  | none => none
def dF (callF : CallF) (s : St) (o : SOper) (r : List SOper) (hist : List St) (pend : List Rd) : Bool → Option (Ex × St)
  | true => dGo callF r (s.put o.dst (.tup [])) (s :: hist) pend (futOk callF hist.length s pend)
  | false => runD callF r (s.put o.dst (.tup [])) hist pend
def dW (callF : CallF) (s : St) (o : SOper) (r : List SOper) (hist : List St) (pend : List Rd) : Option Bool → Option (Ex × St)
  | some true => dS callF s o r hist pend (stepOp callF o.dst o.op s)
  | some false => dF callF s o r hist pend (effect o.op)
  | none => none
def dA (callF : CallF) (s : St) (o : SOper) (r : List SOper) (hist : List St) (pend : List Rd) : Bool → Option (Ex × St)
  | true => runD callF r s hist pend
  | false => dW callF s o r hist pend (wantedS s o.guard)

theorem runD_E {callF : CallF} {o : SOper} {r : List SOper} {s : St} {hist : List St} {pend : List Rd} : runD callF (o :: r) s hist pend = dA callF s o r hist pend (isAllocL o.op) := by
  simp only [runD]
  cases ha : isAllocL o.op with
  | true => rfl
  | false =>
    simp only [Bool.false_eq_true, if_false, dA]
    generalize wantedS s o.guard = x
    cases x with
    | none => rfl
    | some y =>
      cases y with
      | false =>
        simp only [dW]
        cases he : effect o.op with
        | false => rfl
        | true =>
          simp only [if_true, dF]
          generalize futOk callF hist.length s pend = z
          cases z <;> rfl
      | true =>
        simp only [dW]
        generalize stepOp callF o.dst o.op s = z
        cases z with
        | none => rfl
        | some z =>
          cases z with
          | val v s' =>
            simp only [dS]
            cases he : effect o.op with
            | true =>
              simp only [if_true, dV]
              generalize futOk callF hist.length s' pend = z
              cases z <;> rfl
            | false =>
              simp only [Bool.false_eq_true, if_false, dV]
              generalize readOf s o.op = q
              cases q with
              | none => rfl
              | some q =>
                simp only [dRd]
                generalize pastOk callF o.lo ⟨q, v, o.hi⟩ hist.tail = z
                cases z <;> rfl
          | skp s' =>
            simp only [dS]
            cases he : effect o.op with
            | true =>
              simp only [if_true, dK]
              generalize futOk callF hist.length s' pend = z
              cases z <;> rfl
            | false => rfl
          | pan v s' => rfl
theorem runD_nil {callF : CallF} {s : St} {hist : List St} {pend : List Rd} : runD callF [] s hist pend = some (.norm, s) := rfl
theorem dA_true {callF : CallF} {s : St} {o : SOper} {r : List SOper} {hist : List St} {pend : List Rd} : dA callF s o r hist pend true = runD callF r s hist pend := rfl
theorem dA_false {callF : CallF} {s : St} {o : SOper} {r : List SOper} {hist : List St} {pend : List Rd} : dA callF s o r hist pend false = dW callF s o r hist pend (wantedS s o.guard) := rfl
theorem dW_true {callF : CallF} {s : St} {o : SOper} {r : List SOper} {hist : List St} {pend : List Rd} : dW callF s o r hist pend (some true) = dS callF s o r hist pend (stepOp callF o.dst o.op s) := rfl
theorem dW_false {callF : CallF} {s : St} {o : SOper} {r : List SOper} {hist : List St} {pend : List Rd} : dW callF s o r hist pend (some false) = dF callF s o r hist pend (effect o.op) := rfl
theorem dF_true {callF : CallF} {s : St} {o : SOper} {r : List SOper} {hist : List St} {pend : List Rd} : dF callF s o r hist pend true = dGo callF r (s.put o.dst (.tup [])) (s :: hist) pend (futOk callF hist.length s pend) := rfl
theorem dF_false {callF : CallF} {s : St} {o : SOper} {r : List SOper} {hist : List St} {pend : List Rd} : dF callF s o r hist pend false = runD callF r (s.put o.dst (.tup [])) hist pend := rfl
theorem dS_val {callF : CallF} {s s' : St} {v : AV} {o : SOper} {r : List SOper} {hist : List St} {pend : List Rd} : dS callF s o r hist pend (some (.val v s')) = dV callF v s s' o r hist pend (effect o.op) := rfl
theorem dS_skp {callF : CallF} {s s' : St} {o : SOper} {r : List SOper} {hist : List St} {pend : List Rd} : dS callF s o r hist pend (some (.skp s')) = dK callF s' o r hist pend (effect o.op) := rfl
theorem dK_true {callF : CallF} {s' : St} {o : SOper} {r : List SOper} {hist : List St} {pend : List Rd} : dK callF s' o r hist pend true = dGo callF r (s'.put o.dst (.tup [])) (s' :: hist) pend (futOk callF hist.length s' pend) := rfl
theorem dV_true {callF : CallF} {s s' : St} {v : AV} {o : SOper} {r : List SOper} {hist : List St} {pend : List Rd} : dV callF v s s' o r hist pend true = dGo callF r (s'.put o.dst v) (s' :: hist) pend (futOk callF hist.length s' pend) := rfl
theorem dV_false {callF : CallF} {s s' : St} {v : AV} {o : SOper} {r : List SOper} {hist : List St} {pend : List Rd} : dV callF v s s' o r hist pend false = dRd callF v s' o r hist pend (readOf s o.op) := rfl
theorem dRd_some {callF : CallF} {s' : St} {v : AV} {o : SOper} {r : List SOper} {hist : List St} {pend : List Rd} {q : Rq} : dRd callF v s' o r hist pend (some q) = dGo callF r (s'.put o.dst v) hist (if hist.length ≤ o.hi then ⟨q, v, o.hi⟩ :: pend else pend) (pastOk callF o.lo ⟨q, v, o.hi⟩ hist.tail) := rfl
theorem dRd_none {callF : CallF} {s' : St} {v : AV} {o : SOper} {r : List SOper} {hist : List St} {pend : List Rd} : dRd callF v s' o r hist pend none = runD callF r (s'.put o.dst v) hist pend := rfl
theorem dGo_true {callF : CallF} {s : St} {r : List SOper} {hist : List St} {pend : List Rd} : dGo callF r s hist pend true = runD callF r s hist pend := rfl

def preE (callF : CallF) (ops : List SOper) : Option St → Option (Ex × St)
  | some s' => runD callF ops s' [s'] []
  | none => none
theorem runReg_draw {callF : CallF} {ops : List SOper} {s : St} : runReg callF ops true s = preE callF ops (preAlloc callF ops s) := by
  simp only [runReg]
  generalize preAlloc callF ops s = x
  cases x <;> rfl
theorem runReg_seq {callF : CallF} {ops : List SOper} {s : St} : runReg callF ops false s = runOps callF ops s := rfl
theorem preE_some {callF : CallF} {ops : List SOper} {s : St} : preE callF ops (some s) = runD callF ops s [s] [] := rfl

theorem ev_t {s : St} {n : Nat} : ev s (.t n) = (s.tmps[n]?).getD .undef := by simp [ev, List.getD_eq_getElem?_getD]
theorem ev_k {s : St} {v : AV} : ev s (.k v) = v := rfl

theorem natI_nat {k : IntKind} {n : Nat} : natI (.int k (n : Int)) = some n := by simp [natI]
theorem natI_lit {k : IntKind} {n : Nat} : natI (.int k (OfNat.ofNat n : Int)) = some n := by
  have : (OfNat.ofNat n : Int) = (n : Int) := rfl
  rw [this]; exact natI_nat

theorem roomy_exact {l : List Nat} : roomy l .exact = true := rfl
theorem roomy_none {l : List Nat} : roomy l .none = false := rfl
theorem roomy_flag {l : List Nat} : roomy l .flag = false := rfl
theorem roomy_tok {l : List Nat} {n : Nat} : roomy l (.tok n) = l.contains n := rfl
theorem unlive_exact {l : List Nat} : unlive l .exact = l := rfl
theorem unlive_none {l : List Nat} : unlive l .none = l := rfl
theorem unlive_flag {l : List Nat} : unlive l .flag = l := rfl
theorem unlive_tok {l : List Nat} {n : Nat} : unlive l (.tok n) = l.filter fun m => m != n := rfl
theorem filter_ne_self {l : List Nat} {n : Nat} : (n :: l).filter (fun m => m != n) = l.filter fun m => m != n := by simp
theorem filter_nil' {n : Nat} : ([] : List Nat).filter (fun m => m != n) = [] := rfl

theorem beqTT : (true == true) = true := rfl
theorem beqTF : (true == false) = false := rfl
theorem beqFT : (false == true) = false := rfl
theorem beqFF : (false == false) = true := rfl

attribute [go_sem] fin_norm fin_ret getElem?_set_hit getElem?_snoc set_snoc runOps_E opW_true opW_false opV_val opV_skp opV_pan runOps_nil ev_t ev_k natI_nat natI_lit
  runL_seqE seqE_norm seqE_ret seqE_brk seqE_goto seqE_pan runL_region runL_ret runL_condE condE_true condE_false runL_blockE blockE_norm blockE_ret blockE_brk blockE_goto blockE_pan runL_exit runL_skip
  runReg_draw runReg_seq preE_some runD_E runD_nil dA_true dA_false dW_true dW_false dF_true dF_false dS_val dS_skp dK_true dV_true dV_false dRd_some dRd_none dGo_true wantedS stepOp St.put loadAt storeAt takeAt getc setc
  binA unA convA eqK eqLeaf eqLs slKind sliceA bnd fillA fillE mnmxA AV.nrm AV.nrm1 AV.nrm0 AV.part AV.cells AV.one AV.isSl nrms
  toHeaps AV.toHeap roomy_exact roomy_tok roomy_none roomy_flag unlive_exact unlive_tok unlive_none unlive_flag filter_ne_self filter_nil' passA adopt adopt1 adopts readCall getRess getRes gives giveA results enter enterA
  preAlloc effect isAllocL readOf readAt rdOk pastOk futOk agree agrees agreess agreeP agreeO agreeH eqOwn agree_refl agrees_refl agreess_refl agreeH_refl
  St.junk mix St.clear clr strays bytesOf byteOf
  List.set_cons_zero List.set_cons_succ List.getElem?_cons_zero List.getElem?_cons_succ List.length_cons List.length_nil List.replicate
  List.all_cons List.all_nil List.take_succ_cons List.take_zero List.drop_succ_cons List.drop_zero List.take_nil List.drop_nil List.cons_append List.nil_append List.append_nil List.map_cons List.map_nil
  List.getD_eq_getElem?_getD beq_self_eq_true beqTT beqTF beqFT beqFF Bool.not_eq_true Bool.not_eq_false List.set_set List.contains_nil List.contains_cons List.tail_cons List.getElem?_nil List.map_set List.getElem?_map List.length_set List.length_map
  Option.getD_some Option.getD_none Option.map_some Option.map_none
  Bool.false_eq_true Bool.not_true Bool.not_false Bool.and_true Bool.true_and Bool.and_false Bool.false_and Bool.or_true Bool.true_or Bool.or_false Bool.false_or
  if_true if_false or_true true_or or_false false_or and_self and_true true_and eq_self decide_true decide_false

end Go.PM

/- From a run of the reading to a statement's row. -/
namespace Go.PM
open Go.ChangeShapes Go.WideShapes Go.ChangeAt Go.RowKit

/-- all that is there when the call begins stays as it is -/
def G0 (W : World) : G := { K := fun b o => match cl W b o with | some v => .imm v | none => .free, adr := fun _ => 0, osz := fun _ => 0, n := 0 }

theorem G0_imm {W : World} {b o : Nat} {v : Value} (h : cl W b o = some v) : (G0 W).K b o = .imm v := by simp [G0, h]

theorem inv0 (W : World) : Inv W.heap.size (G0 W) [] W := by
  refine ⟨fun b o v h => ?_, fun b o h => ?_, fun b o h1 h2 => ?_, fun b o _ => ?_, Nat.le_refl _, rfl, fun i j h => by simp [G0] at h, fun i h => by simp [G0] at h, fun id h e => by simp at e⟩
  · simp only [G0] at h
    split at h
    · cases h; assumption
    · cases h
  · simp only [G0] at h
    split at h
    · rename_i e; rw [e]; rfl
    · exact absurd rfl h
  · exfalso
    simp only [G0] at h1 h2
    split at h1
    · rename_i v e; exact h2 v (by simp [e])
    · exact h1 rfl
  · simp only [G0]
    split
    · exact .inr ⟨_, rfl⟩
    · exact .inl rfl

/-- a run of a function of the program, in the machine -/
theorem calls_of {P : Program} {Pg : FuncId → Option SF} (hm : P.follows .mixedOrders = true) (hT : Tab P Pg) {Pr : Prims} (hPr : ∀ B d, CallOk P B d (fun f args heap => match Pr f with | some p => p args heap | none => none))
    {f : FuncId} {fn : Func} {c : Code} (hf : P.funcs[f]? = some fn) (hname : (fn.name == "runtime.NumGoroutine") = false) (hb : fn.body = some c)
    {W : World} {avs : List AV} {args : Array Value} {a : AV} {h' : List HObj} (hrun : callL Pr Pg f avs [] = some (.ret a, h')) (hA : ArgsOk (G0 W) 0 avs args) :
    Calls P f args W fun e W' => ∃ x, e = .returned x ∧ (∃ g', RV g' a x) ∧ (∀ b, b < W.heap.size → W'.heap[b]? = W.heap[b]?) ∧ W'.os = W.os ∧ W'.output = W.output := by
  obtain ⟨n, hn⟩ := callL_iff.1 hrun
  have hC := (sound (B := W.heap.size) (draw_ok hm) hT (hPr W.heap.size) n).2 0 f avs [] _ _ hn (G0 W) W args (inv0 W) hA
  have key : ∀ e W', (∃ g', Keep W.heap.size 0 (G0 W) W g' W' ∧ Inv W.heap.size g' h' W' ∧ EndOk g' 0 (.ret a) e) →
      ∃ x, e = .returned x ∧ (∃ g', RV g' a x) ∧ (∀ b, b < W.heap.size → W'.heap[b]? = W.heap[b]?) ∧ W'.os = W.os ∧ W'.output = W.output := by
    rintro e W' ⟨g', k, _, ho⟩
    cases e <;> first | exact ho.elim | skip
    exact ⟨_, rfl, ⟨g', ho.1⟩, k.low, k.os, k.out⟩
  have hent := callFunc_enter hf hname hb args W
  rcases hC with ⟨h, argv', e1, e2⟩ | ⟨v, w', e1, _⟩
  · rw [hent] at e1
    cases e1
    exact e2.mono key
  · rw [hent] at e1; cases e1

theorem noPr_ok {P : Program} (B d : Nat) : CallOk P B d (fun f args heap => match noPr f with | some p => p args heap | none => none) := by
  intro f args heap out heap' h
  simp [noPr] at h

section
variable {H : Type} {enc : TypeId × Value → H} {P : Program}

theorem trodAll_stays (hl : laidOutB P = true) {W W' : World} {base : Nat} {sp : Nat → Bool} : ∀ {ts : List TypeId} {vs : List Value} {ds : List (DataW H)} {ps : List MemPlace}, (∀ t ∈ ts, P.readableRec t = true ∧ t < P.types.size) →
    DataW.TrodAll enc P W base (fun _ => true) true ts vs ds ps → (∀ p ∈ ps, W.sameAt W' p) → (∀ p ∈ ps, sp p.block = true) → DataW.TrodAll enc P W' base sp true ts vs ds ps
  | [], vs, ds, ps, _, h, _, _ => by
    obtain ⟨rfl, rfl, rfl⟩ := trodAll_nil h
    rfl
  | t :: ts, vs, ds, ps, hr, h, h1, h2 => by
    obtain ⟨v, vs1, d, ds1, a, b, rfl, rfl, rfl, q1, q2⟩ := trodAll_cons h
    have r := hr t (List.mem_cons_self ..)
    exact ⟨a, b, WideElems.Trod_stays hl r.1 r.2 q1 (fun p hp => h1 p (List.mem_append_left _ hp)) (fun p hp => h2 p (List.mem_append_left _ hp)),
      trodAll_stays hl (fun t ht => hr t (List.mem_cons_of_mem _ ht)) q2 (fun p hp => h1 p (List.mem_append_right _ hp)) (fun p hp => h2 p (List.mem_append_right _ hp)), rfl⟩

/-- a call that leaves all as it was and answers true meets what its row says -/
theorem post_law {f : Func} {s : ChangeSpec} {apart fresh handsOn again : Bool} {W W' : World} {args : Array Value} {ds gs : List (DataW H)} {before : List MemPlace} {tb : TypeId}
    (hW : DataW.Whole enc P f.params.toList s.vars apart W args.toList ds gs before) (hvars : s.vars = [])
    (hl : laidOutB P = true) (hts : ∀ t ∈ f.params.toList, P.readableRec t = true ∧ t < P.types.size) (hres : f.resultTypes = #[tb]) (htb : P.underlying tb = some .bool)
    (hs1 : (s.fn H ds).results = [.lit (.bool true)]) (hs2 : (s.fn H ds).args = ds) (hs3 : (s.fn H ds).vars = [])
    (hlow : ∀ b, b < W.heap.size → W'.heap[b]? = W.heap[b]?) (hos : W'.os = W.os) (hout : W'.output = W.output) :
    s.post enc P f apart fresh handsOn again W args (.bool true) W' := by
  have hlt := hW.lt
  have hW' := hW
  obtain ⟨p, q, hA, hV, rfl, hz, hn⟩ := hW
  rw [hvars] at hV
  obtain ⟨rfl, rfl⟩ := trodVars_none hV
  simp only [List.append_nil] at *
  have hsame : ∀ x ∈ p, W.sameAt W' x := by
    intro x hx
    have hb := hlt x hx
    cases x with
    | cell b o => exact World.cell?_of_block (w := W) (hlow b hb)
    | map b => exact hlow b hb
  have hres' : ∀ (b : Nat) (sp : Nat → Bool) (hd : Bool), DataW.TrodAll enc P W' b sp hd f.resultTypes.toList ((Value.bool true).resultList f.resultTypes.size) (s.fn H (ds ++ [])).results [] := by
    intro b sp hd
    rw [hres, List.append_nil, hs1]
    exact trodAll_cons_mk (shut_bool htb _) trodAll_mk0
  have hargs : ∀ sp : Nat → Bool, (∀ x ∈ p, sp x.block = true) → DataW.TrodAll enc P W' 0 sp true f.params.toList args.toList (s.fn H (ds ++ [])).args p := by
    intro sp hsp
    rw [List.append_nil, hs2]
    exact trodAll_stays hl hts hA hsame hsp
  have hvs : ∀ sp : Nat → Bool, DataW.TrodVars enc P W' sp s.vars (s.fn H (ds ++ [])).vars [] := by
    intro sp
    rw [List.append_nil, hs3, hvars]
    rfl
  have hold : ∀ x ∈ p, (fun b => decide (b < W.heap.size)) x.block = true := fun x hx => by simpa using hlt x hx
  have hk : W.keptBut W' (· ∈ p) := by
    refine ⟨hos, hout, fun i hi => ?_⟩
    rw [hlow i hi]
    split <;> simp_all
  refine ⟨ds, [], p, [], p, [], by simpa using hW', hres' _ _ _, hargs _ hold, hvs _, World.keptBut_mono (fun x hx => ⟨hx, .inr (.inl hx)⟩) hk, fun _ => ?_⟩
  refine ⟨ok_one hres rfl (okWide_bool_mk htb _), _, _, ([] ++ p) ++ [], ⟨[] ++ p, [], trodAll_append (hargs _ (fun _ _ => rfl)) (hres' _ _ _), hvs _, rfl, ?_, ?_⟩, ?_⟩
  · intro b off hp
    simp only [List.nil_append, List.append_nil] at hp
    have hb := hlt _ hp
    rw [World.frozen?_of_block (w := W) (hlow b hb)]
    exact hz b off hp
  · intro ha
    simpa using hn ha
  · intro x hx _
    simpa using hx

/-- the contract that a row asks -/
theorem law_of {Pg : FuncId → Option SF} {Pr : Prims} {f : FuncId} {fn : Func} {c : Code} {s : ChangeSpec} {apart fresh handsOn again : Bool} {W : World} {args : Array Value} {ds gs : List (DataW H)} {before : List MemPlace} {tb : TypeId}
    (hm : P.follows .mixedOrders = true) (hT : Tab P Pg) (hPr : ∀ B d, CallOk P B d (fun f args heap => match Pr f with | some p => p args heap | none => none)) (hf : P.funcs[f]? = some fn) (hname : (fn.name == "runtime.NumGoroutine") = false) (hb : fn.body = some c)
    (hW : DataW.Whole enc P fn.params.toList s.vars apart W args.toList ds gs before) (hvars : s.vars = [])
    (hl : laidOutB P = true) (hts : ∀ t ∈ fn.params.toList, P.readableRec t = true ∧ t < P.types.size) (hres : fn.resultTypes = #[tb]) (htb : P.underlying tb = some .bool)
    (hs1 : (s.fn H ds).results = [.lit (.bool true)]) (hs2 : (s.fn H ds).args = ds) (hs3 : (s.fn H ds).vars = [])
    {avs : List AV} {h' : List HObj} (hA : ArgsOk (G0 W) 0 avs args) (hrun : callL Pr Pg f avs [] = some (.ret (.bool true), h')) :
    Calls P f args W fun e W' => ∃ v, e = .returned v ∧ s.post enc P fn apart fresh handsOn again W args v W' := by
  refine (calls_of hm hT hPr hf hname hb hrun hA).mono fun e W' ⟨x, he, ⟨g', hx⟩, h1, h2, h3⟩ => ?_
  cases hx
  exact ⟨_, he, post_law hW hvars hl hts hres htb hs1 hs2 hs3 h1 h2 h3⟩

/-! ### what arguments are to the reading -/

def RVL (g : G) (as : List AV) (vs : List Value) : Prop := as.length = vs.length ∧ ∀ (i : Nat) a v, as[i]? = some a → vs[i]? = some v → RV g a v

theorem RVL.nil {g : G} : RVL g [] [] := ⟨rfl, fun i a v h => by simp at h⟩
theorem RVL.cons {g : G} {a : AV} {v : Value} {as : List AV} {vs : List Value} (h : RV g a v) (t : RVL g as vs) : RVL g (a :: as) (v :: vs) := by
  refine ⟨by simp [t.1], fun i x y h1 h2 => ?_⟩
  cases i with
  | zero => simp at h1 h2; subst h1; subst h2; exact h
  | succ i => simp at h1 h2; exact t.2 i x y h1 h2
theorem RVL.one {g : G} {a : AV} {v : Value} (h : RV g a v) : RVL g [a] [v] := .cons h .nil
theorem RVL.append {g : G} {as bs : List AV} {vs ws : List Value} (h : RVL g as vs) (k : RVL g bs ws) : RVL g (as ++ bs) (vs ++ ws) := by
  induction as generalizing vs with
  | nil =>
    have : vs = [] := List.eq_nil_of_length_eq_zero (by simpa using h.1.symm)
    subst this; exact k
  | cons a as ih =>
    cases vs with
    | nil => have := h.1; simp at this
    | cons v vs => exact .cons (h.2 0 a v rfl rfl) (ih ⟨by simpa using h.1, fun i x y h1 h2 => h.2 (i + 1) x y (by simpa using h1) (by simpa using h2)⟩)

theorem RVL.agg {g : G} {as : List AV} {vs : Array Value} (h : RVL g as vs.toList) : RV g (.agg as) (.agg vs) :=
  .agg _ _ (by simpa using h.1) fun i a v h1 h2 => h.2 i a v h1 (by simpa using h2)

theorem ArgsOk.of {g : G} {d : Nat} {as : List AV} {args : Array Value} (h : RVL g as args.toList) (hr : ∀ (i : Nat) a v, as[i]? = some a → args[i]? = some v → RetRoom g d i a v) : ArgsOk g d as args :=
  ⟨by simpa using h.1, fun i a v h1 h2 => ⟨h.2 i a v h1 (by simpa using h2), hr i a v h1 h2⟩⟩

variable {W : World} {sp : Nat → Bool} {held : Bool} {fuel : Nat} {t : TypeId} {cs : List Value} {x : DataW H × List MemPlace} {base : Nat}

theorem cells_get {a : Addr} {n : Nat} {cs : List Value} (h : W.cells? base a n = some cs) : cs.length = n ∧ ∀ i v, cs[i]? = some v → W.cell? (a.add i) = some v := by
  unfold World.cells? at h
  split at h
  · have hlen := mapM_some_length h
    refine ⟨by simpa using hlen, fun i v hv => ?_⟩
    have hlt : i < n := by have := (List.getElem?_eq_some_iff.1 hv).1; simp at hlen; omega
    rw [mapM_some_get h i i (by simp [hlt]), hv]
  · cases h

theorem cell_spot {a : Addr} {v : Value} (h : W.cell? a = some v) : a.spot = none := by
  unfold World.cell? at h
  split at h
  · split at h
    · cases h
    · rename_i hs; simpa using hs
  · cases h

/-- a slice of whatever elements -/
theorem read_slice {α : Type} {e : TypeId} (enc1 : α → List AV) (q : α → DataW H → Prop) (ht : P.underlying t = some (.slice e)) (hE : 0 < P.cellsOf e) (hsp : ∀ b, sp b = true) (h : DataW.trod enc P W base sp held fuel t cs = some x)
    (hel : ∀ n cs' y, n < fuel → DataW.trod enc P W base sp held n e cs' = some y → ∃ a : α, RVL (G0 W) (enc1 a) cs' ∧ q a y.1) :
    ∃ (l : List α) (v : Value), cs = [v] ∧ (∀ own, RV (G0 W) (.sl (P.cellsOf e) (l.map enc1) own) v) ∧
      ((x.1 = .nil ∧ l = []) ∨ ∃ elems spare, x.1 = .slice elems spare ∧ l.length = elems.length ∧ ∀ (i : Nat) a d, l[i]? = some a → elems[i]? = some d → q a d) := by
  rcases DataW.trod_slice ht h with ⟨rfl, rfl⟩ | ⟨a, len, cap, elems, rest, n, rfl, rfl, rfl, hb, hl, hm, hlen, hget, hrest, _⟩
  · exact ⟨[], _, rfl, fun own => .sln _ _ _, .inl ⟨rfl, rfl⟩⟩
  · have hpart : ∀ i, i < len → ∃ y cs' b, elems[i]? = some y ∧ W.cells? base (a.add (i * P.cellsOf e)) (P.cellsOf e) = some cs' ∧ RVL (G0 W) (enc1 b) cs' ∧ q b y.1 := by
      intro i hi
      have h1 := hget i hi
      have h2 : elems[i]? = some (elems[i]'(by omega)) := List.getElem?_eq_getElem _
      rw [h2, Option.bind_eq_some_iff] at h1
      obtain ⟨cs', k1, k2⟩ := h1
      obtain ⟨b, k3, k4⟩ := hel n cs' _ (by omega) k2
      exact ⟨_, cs', b, h2, k1, k3, k4⟩
    -- the elements, chosen
    have hlist : ∀ m, m ≤ len → ∃ l : List α, l.length = m ∧ ∀ (i : Nat) b, l[i]? = some b → ∃ y cs', elems[i]? = some y ∧ W.cells? base (a.add (i * P.cellsOf e)) (P.cellsOf e) = some cs' ∧ RVL (G0 W) (enc1 b) cs' ∧ q b y.1 := by
      intro m
      induction m with
      | zero => exact fun _ => ⟨[], rfl, fun i b h => by simp at h⟩
      | succ m ih =>
        intro hm'
        obtain ⟨l, h1, h2⟩ := ih (by omega)
        obtain ⟨y, cs', b, k1, k2, k3, k4⟩ := hpart m (by omega)
        refine ⟨l ++ [b], by simp [h1], fun i b' hb' => ?_⟩
        rw [List.getElem?_append] at hb'
        split at hb'
        · exact h2 i b' hb'
        · rename_i hge
          have : i = m := by
            cases hh : i - l.length with
            | zero => omega
            | succ z => rw [hh] at hb'; simp at hb'
          subst this
          simp [h1] at hb'
          subst hb'
          exact ⟨y, cs', k1, k2, k3, k4⟩
    obtain ⟨l, hl1, hl2⟩ := hlist len (Nat.le_refl _)
    refine ⟨l, _, rfl, fun own => ?_, .inr ⟨_, _, rfl, by simp [hl1, hlen], fun i b d h1 h2 => ?_⟩⟩
    · by_cases h0 : len = 0
      · subst h0
        have : l = [] := List.eq_nil_of_length_eq_zero hl1
        subst this
        by_cases hc0 : cap = 0
        · subst hc0; exact .sln _ _ _
        · -- room alone: the address is one of cells, or the slice reads as none
          by_cases hs : a.spot = none
          · obtain ⟨b, o, s⟩ := a
            simp only at hs
            subst hs
            exact .sl _ _ _ b o cap (fun _ _ => undef) (by simp) (fun i e h => by simp at h) (fun i e j av h => by simp at h) (fun i e j av h => by simp at h)
          · exfalso
            obtain ⟨r1, r2⟩ := hrest (hsp _)
            have r3 := r2 0 (by omega)
            have r4 : rest[0]? = some (rest[0]'(by omega)) := List.getElem?_eq_getElem _
            rw [r4, Option.bind_eq_some_iff] at r3
            obtain ⟨cs', k1, _⟩ := r3
            obtain ⟨c1, c2⟩ := cells_get k1
            have := c2 0 (cs'[0]'(by omega)) (List.getElem?_eq_getElem _)
            exact hs (cell_spot (by simpa [Addr.add] using this))
      · have hs : a.spot = none := by
          obtain ⟨y, cs', b, _, k2, _, _⟩ := hpart 0 (by omega)
          obtain ⟨c1, c2⟩ := cells_get k2
          have := c2 0 (cs'[0]'(by omega)) (List.getElem?_eq_getElem _)
          simp only [Nat.zero_mul] at this
          exact cell_spot (by simpa [Addr.add] using this)
        obtain ⟨b, o, s⟩ := a
        simp only at hs
        subst hs
        have hel' : ∀ (i : Nat) (c : List AV), (l.map enc1)[i]? = some c → ∃ cs', W.cells? base (Addr.add ⟨b, o, none⟩ (i * P.cellsOf e)) (P.cellsOf e) = some cs' ∧ RVL (G0 W) c cs' := by
          intro i c hc
          simp only [List.getElem?_map, Option.map_eq_some_iff] at hc
          obtain ⟨z, hz, rfl⟩ := hc
          obtain ⟨y, cs', _, k2, k3, _⟩ := hl2 i z hz
          exact ⟨cs', k2, k3⟩
        have hcell : ∀ (i : Nat) (c : List AV) (j : Nat) av, (l.map enc1)[i]? = some c → c[j]? = some av → ∃ v, cl W b (o + (i * P.cellsOf e + j)) = some v ∧ RV (G0 W) av v := by
          intro i c j av hc hj
          obtain ⟨cs', k2, k3⟩ := hel' i c hc
          obtain ⟨c1, c2⟩ := cells_get k2
          have hlt : j < cs'.length := by rw [← k3.1]; exact (List.getElem?_eq_some_iff.1 hj).1
          refine ⟨cs'[j], ?_, k3.2 j av _ hj (List.getElem?_eq_getElem hlt)⟩
          have := c2 j _ (List.getElem?_eq_getElem hlt)
          rw [Addr.add_mid, Addr.add_mid] at this
          unfold cl
          rw [← Nat.add_assoc]
          exact this
        have hl3 : (l.map enc1).length = len := by simp [hl1]
        have := RV.sl (g := G0 W) (P.cellsOf e) (l.map enc1) own b o cap (fun i j => (cl W b (o + (i * P.cellsOf e + j))).getD undef) (by rw [hl3]; exact hl)
          (fun i c hc => by
            obtain ⟨cs', k2, k3⟩ := hel' i c hc
            rw [k3.1]; exact (cells_get k2).1)
          (fun i c j av hc hj => by
            obtain ⟨v, hv, _⟩ := hcell i c j av hc hj
            rw [G0_imm hv, hv]; rfl)
          (fun i c j av hc hj => by
            obtain ⟨v, hv, hr⟩ := hcell i c j av hc hj
            simp only [hv, Option.getD_some]; exact hr)
        rwa [hl3] at this
    · simp only [List.getElem?_map, Option.map_eq_some_iff] at h2
      obtain ⟨y, h2, rfl⟩ := h2
      obtain ⟨y', cs', k1, _, _, k4⟩ := hl2 i b h1
      rw [h2] at k1
      cases k1
      exact k4

/-! ### values by their types -/

theorem val_slice {e : TypeId} {v : Value} {r : Reach} {b : Nat} (ht : P.underlying t = some (.slice e)) (h : Value.okWide P W r b t v) : v.cells.toList = [v] := by
  unfold Value.okWide Cell.okWide Cell.ok at h
  rw [ht] at h
  cases v <;> simp_all [Value.cells]
theorem val_int {k : IntKind} {v : Value} {r : Reach} {b : Nat} (ht : P.underlying t = some (.int k)) (h : Value.okWide P W r b t v) : v.cells.toList = [v] := by
  unfold Value.okWide Cell.okWide Cell.ok at h
  rw [ht] at h
  cases v <;> simp_all [Value.cells]
theorem val_string {v : Value} {r : Reach} {b : Nat} (ht : P.underlying t = some .string) (h : Value.okWide P W r b t v) : v.cells.toList = [v] := by
  unfold Value.okWide Cell.okWide Cell.ok at h
  rw [ht] at h
  cases v <;> simp_all [Value.cells]
theorem val_struct {fs : Array Field} {v : Value} {r : Reach} {b : Nat} (ht : P.underlying t = some (.struct fs)) (h : Value.okWide P W r b t v) : ∃ cs, v = .agg cs := by
  unfold Value.okWide at h
  rw [ht] at h
  obtain ⟨cs, h, _⟩ := h
  exact ⟨cs, h⟩

/-- an argument of a type of one cell -/
theorem read_int {k : IntKind} (ht : P.underlying t = some (.int k)) (h : DataW.trod enc P W base sp held fuel t cs = some x) : ∃ n, RVL (G0 W) [.int k n] cs ∧ x.1 = .lit (.int k n) ∧ (Lit.int k n).wf = true := by
  obtain ⟨n, rfl, rfl, hw⟩ := DataW.trod_int ht h
  exact ⟨n, .one (.int _ _), rfl, hw⟩
theorem read_string (ht : P.underlying t = some .string) (h : DataW.trod enc P W base sp held fuel t cs = some x) : ∃ l, RVL (G0 W) [.str l] cs ∧ x.1 = .lit (.string l) := by
  obtain ⟨s, rfl, rfl, _⟩ := DataW.trod_string ht h
  exact ⟨_, .one (.str _ _ rfl), rfl⟩
theorem read_bool (ht : P.underlying t = some .bool) (h : DataW.trod enc P W base sp held fuel t cs = some x) : ∃ b, RVL (G0 W) [.bool b] cs ∧ x.1 = .lit (.bool b) := by
  obtain ⟨s, rfl, rfl⟩ := DataW.trod_bool ht h
  exact ⟨_, .one (.bool _), rfl⟩

theorem RVL.part {g : G} {as bs : List AV} {vs : List Value} {o n : Nat} (h : RVL g as ((vs.drop o).take n)) (k : RVL g bs (vs.drop (o + n))) : RVL g (as ++ bs) (vs.drop o) := by
  have e : vs.drop o = (vs.drop o).take n ++ vs.drop (o + n) := by rw [← List.drop_drop, List.take_append_drop]
  rw [e]; exact h.append k
theorem RVL.done {g : G} {vs : List Value} {o : Nat} (h : vs.length ≤ o) : RVL g [] (vs.drop o) := by
  rw [List.drop_eq_nil_of_le h]; exact .nil

theorem read_struct {fs : Array Field} (ht : P.underlying t = some (.struct fs)) (h : DataW.trod enc P W base sp held fuel t cs = some x) :
    ∃ (xs : List (DataW H × List MemPlace)) (n : Nat), fuel = n + 1 ∧ x.1 = .agg (xs.map (·.1)) ∧ cs.length = P.cellsOf t ∧ xs.length = fs.size ∧
      ∀ (i : Nat) (u off k : Nat), (fs[i]?.map fun f => (f.type, f.offset)) = some (u, off) → P.cellsOf u = k → ∃ y, xs[i]? = some y ∧ DataW.trod enc P W base sp held n u ((cs.drop off).take k) = some y := by
  obtain ⟨xs, n, h1, rfl, h3, h4, h5⟩ := DataW.trod_struct ht h
  refine ⟨xs, n, h1, rfl, h3, h4, fun i u off k hf hk => ?_⟩
  rw [Option.map_eq_some_iff] at hf
  obtain ⟨f, hf, e⟩ := hf
  cases e
  subst hk
  have hlt : i < xs.length := by rw [h4]; exact (Array.getElem?_eq_some_iff.1 hf).1
  exact ⟨xs[i], List.getElem?_eq_getElem hlt, by rw [h5 i f hf]; exact List.getElem?_eq_getElem hlt⟩

theorem RVL.val {g : G} {a : AV} {v : Value} (h : RVL g [a] [v]) : RV g a v := h.2 0 a v rfl rfl

theorem retRoom_plain {g : G} {d : Nat} {as : List AV} {args : Array Value} (h : ∀ a ∈ as, a.nrm = a) : ∀ (i : Nat) a v, as[i]? = some a → args[i]? = some v → RetRoom g d i a v := by
  intro i a v h1 _
  rw [← h a (List.mem_of_getElem? h1)]
  exact .nrm _ _

end
end Go.PM
