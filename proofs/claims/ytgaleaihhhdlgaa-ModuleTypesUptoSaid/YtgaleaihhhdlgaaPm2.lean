/- One operation of the machine against one of the reading: arithmetic, comparisons, conversions, parts. -/
import Derived.Test.YtgaleaihhhdlgaaPm1
import Derived.Laws.StructEq
import Derived.Laws.Unary
import Derived.Laws.Build

set_option linter.unusedVariables false
set_option linter.unusedSimpArgs false

namespace Go.PM
section
variable {P : Program} {H : Hints} {B d : Nat} {g : G} {s : St} {tm : Array Value} {w : World} {L : Nat → Option Nat} {R : Rm}

theorem ltBytes_eq : ∀ (a b : List UInt8), ltBytes a b = Op.bytesLess a b
  | _, [] => by simp [ltBytes, Op.bytesLess]
  | [], _ :: _ => by simp [ltBytes, Op.bytesLess]
  | a :: x, b :: y => by simp [ltBytes, Op.bytesLess, ltBytes_eq x y]

theorem beq_list (a b : List UInt8) : (a == b) = decide (a = b) := by
  by_cases h : a = b <;> simp [h]

theorem fieldsOf_eq {t : TypeId} {fs : Array Field} (h : P.underlying t = some (.struct fs)) : P.fieldsOf t = fs := by
  simp [Program.fieldsOf, h]

theorem isAgg_run {t : TypeId} {b : Bool} (h : isAggT P t = some b) (w : World) : (isAgg t).run P w = .ok b w := by
  unfold isAggT at h
  unfold isAgg
  split at h <;> rename_i e
  · cases h; simp [run_underlying e]
  · cases h; simp [run_underlying e]
  · cases h
    rename_i d h1 h2
    simp only [Sem.run_bind, run_underlying e, Result.andThen_ok]
    cases d <;> simp_all
  · cases h

theorem sizeOf_run {t : TypeId} {i : TypeInfo} (h : P.info? t = some i) (w : World) : (sizeOf t).run P w = .ok i.size w := by
  simp [sizeOf, typeInfo, h]

/-- a part of a value, cell by cell -/
theorem part_run {t : TypeId} {i : TypeInfo} {ag : Bool} (ha : isAggT P t = some ag) (hi : P.info? t = some i) (cs : Array Value) (off : Nat) (w : World)
    (hb : off + i.size ≤ cs.size) (h1 : ag = false → i.size = 1) :
    (part t cs off).run P w = .ok (if ag then .agg (cs.extract off (off + i.size)) else cs.getD off undef) w := by
  unfold part
  simp only [Sem.run_bind, isAgg_run ha, Result.andThen_ok]
  cases ag
  · simp only [Bool.false_eq_true, if_false]
    have := h1 rfl
    have hlt : off < cs.size := by omega
    simp [Array.getElem?_eq_getElem hlt, Array.getD, hlt]
  · simp [sizeOf_run hi]

def listOf (vs : Array Value) (off n : Nat) : List Value := (vs.toList.drop off).take n

theorem eqLs_len : ∀ {ks : List Nat} {a b : List AV} {r : Bool}, eqLs ks a b = some r → a.length = ks.length ∧ b.length = ks.length
  | [], [], [], _, _ => ⟨rfl, rfl⟩
  | [], [], _ :: _, _, h => by simp [eqLs] at h
  | [], _ :: _, _, _, h => by simp [eqLs] at h
  | _ :: _, [], _, _, h => by simp [eqLs] at h
  | _ :: _, _ :: _, [], _, h => by simp [eqLs] at h
  | k :: ks, a :: r, b :: q, t, h => by
    simp only [eqLs] at h
    split at h
    · rename_i x y h1 h2
      obtain ⟨e1, e2⟩ := eqLs_len h2
      simp [e1, e2]
    · cases h

theorem eqLs_append : ∀ {k1 k2 : List Nat} {a b : List AV} {r : Bool}, eqLs (k1 ++ k2) a b = some r →
    ∃ x y, eqLs k1 (a.take k1.length) (b.take k1.length) = some x ∧ eqLs k2 (a.drop k1.length) (b.drop k1.length) = some y ∧ r = (x && y)
  | [], k2, a, b, r, h => ⟨true, r, by simp [eqLs], by simpa using h, by simp⟩
  | k :: k1, k2, [], _, _, h => by simp [eqLs] at h
  | k :: k1, k2, _ :: _, [], _, h => by simp [eqLs] at h
  | k :: k1, k2, a :: as_, b :: bs, r, h => by
    simp only [List.cons_append, eqLs] at h
    split at h
    · rename_i x y h1 h2
      obtain ⟨x', y', e1, e2, e3⟩ := eqLs_append h2
      cases h
      exact ⟨x && x', y', by simp [eqLs, h1, e1], by simpa using e2, by rw [e3, Bool.and_assoc]⟩
    · cases h

/-- cells as they stand for abstract ones -/
def RVs (g : G) (cs : List AV) (vs : List Value) : Prop := cs.length = vs.length ∧ ∀ (i : Nat) c v, cs[i]? = some c → vs[i]? = some v → RV g c v

theorem RVs.take {cs : List AV} {vs : List Value} (h : RVs g cs vs) (n : Nat) : RVs g (cs.take n) (vs.take n) :=
  ⟨by simp [h.1], fun i c v h1 h2 => by
    rw [List.getElem?_take] at h1 h2
    split at h1
    · rename_i hlt; rw [if_pos hlt] at h2; exact h.2 i c v h1 h2
    · cases h1⟩
theorem RVs.drop {cs : List AV} {vs : List Value} (h : RVs g cs vs) (n : Nat) : RVs g (cs.drop n) (vs.drop n) :=
  ⟨by simp [h.1], fun i c v h1 h2 => by
    rw [List.getElem?_drop] at h1 h2
    exact h.2 _ c v h1 h2⟩

theorem leaf_num {k : Nat} {a b : AV} {r : Bool} {x y : Value} (h : eqLeaf k a b = some r) (h1 : RV g a x) (h2 : RV g b y) :
    (k = 0 → ∃ kd m n, x = .int kd m ∧ y = .int kd n ∧ r = (m == n)) ∧
    (k = 1 → ∃ p q, x = .string p ∧ y = .string q ∧ r = (p.toList == q.toList)) ∧
    (k = 2 → ∃ p q, x = .bool p ∧ y = .bool q ∧ r = (p == q)) ∧ k < 3 := by
  unfold eqLeaf at h
  split at h
  · split at h
    · rename_i e; cases h; subst e; cases h1; cases h2
      exact ⟨fun _ => ⟨_, _, _, rfl, rfl, rfl⟩, by simp, by simp, by simp⟩
    · cases h
  · cases h; cases h1; cases h2
    rename_i s1 e1 s2 e2
    refine ⟨by simp, fun _ => ⟨_, _, rfl, rfl, ?_⟩, by simp, by simp⟩
    rw [ByteArray.toList_eq, ByteArray.toList_eq, e1, e2, beq_list]
  · cases h; cases h1; cases h2
    exact ⟨by simp, by simp, fun _ => ⟨_, _, rfl, rfl, rfl⟩, by simp⟩
  · cases h

/-- the walk over the fields, from an offset on -/
theorem leafK_fold (n : Nat) : ∀ (fs : List Field) (sz : Nat) (ks : List Nat) (o : Nat),
    fs.foldr (fun f acc => match acc, leafK P n f.type with
        | some (q : List Nat × Nat), some ks => if f.name ≠ "_" ∧ f.offset + ks.length = q.2 ∧ 0 < ks.length then some (ks ++ q.1, f.offset) else none
        | _, _ => none) (some ([], sz)) = some (ks, o) →
    match fs with
    | [] => ks = [] ∧ o = sz
    | f :: r => ∃ k1 k2 o2, leafK P n f.type = some k1 ∧ f.name ≠ "_" ∧ ks = k1 ++ k2 ∧ o = f.offset ∧ f.offset + k1.length = o2 ∧ 0 < k1.length ∧
        r.foldr (fun f acc => match acc, leafK P n f.type with
        | some (q : List Nat × Nat), some ks => if f.name ≠ "_" ∧ f.offset + ks.length = q.2 ∧ 0 < ks.length then some (ks ++ q.1, f.offset) else none
        | _, _ => none) (some ([], sz)) = some (k2, o2) := by
  intro fs sz ks o h
  cases fs with
  | nil => simp at h; exact ⟨h.1, h.2.symm⟩
  | cons f r =>
    simp only [List.foldr_cons] at h
    split at h
    · rename_i q ks' h1 h2
      split at h
      · rename_i hh
        simp only [Option.some.injEq, Prod.mk.injEq] at h
        exact ⟨ks', q.1, q.2, h2, hh.1, h.1.symm, h.2.symm, hh.2.1, hh.2.2, h1⟩
      · cases h
    · cases h

theorem leafK_size : ∀ (n : Nat) {t : TypeId} {ks : List Nat}, leafK P n t = some ks → ∃ i, P.info? t = some i ∧ i.size = ks.length ∧
    ((∃ fs, P.underlying t = some (.struct fs) ∧ isAggT P t = some true) ∨ (isAggT P t = some false ∧ ks.length = 1)) := by
  intro n
  induction n with
  | zero => intro t ks h; simp [leafK] at h
  | succ n ih =>
    intro t ks h
    unfold leafK at h
    split at h <;> rename_i hu hi
    · split at h
      · rename_i e; cases h; exact ⟨_, hi, e, .inr ⟨by simp [isAggT, hu], rfl⟩⟩
      · cases h
    · split at h
      · rename_i e; cases h; exact ⟨_, hi, e, .inr ⟨by simp [isAggT, hu], rfl⟩⟩
      · cases h
    · split at h
      · rename_i e; cases h; exact ⟨_, hi, e, .inr ⟨by simp [isAggT, hu], rfl⟩⟩
      · cases h
    · rename_i fs i
      split at h
      · cases h
      · split at h
        · rename_i ks' hf
          cases h
          refine ⟨i, hi, ?_, .inl ⟨fs, hu, by simp [isAggT, hu]⟩⟩
          have : ∀ (l : List Field) (ks : List Nat) (o : Nat), l.foldr (fun f acc => match acc, leafK P n f.type with
              | some (q : List Nat × Nat), some ks => if f.name ≠ "_" ∧ f.offset + ks.length = q.2 ∧ 0 < ks.length then some (ks ++ q.1, f.offset) else none
              | _, _ => none) (some ([], i.size)) = some (ks, o) → o + ks.length = i.size := by
            intro l
            induction l with
            | nil => intro ks o h; have := leafK_fold n [] _ _ _ h; simp at this; simp [this.1, this.2]
            | cons f r ihl =>
              intro ks o h
              obtain ⟨k1, k2, o2, e1, e2, e3, e4, e5, e7, e6⟩ := leafK_fold n (f :: r) _ _ _ h
              have := ihl k2 o2 e6
              subst e3; subst e4
              simp; omega
          have := this _ _ _ hf
          omega
        · cases h
    · cases h

theorem equalIn_leafs : ∀ (n : Nat) (dd : Nat) {t : TypeId} {ks : List Nat} {a b : List AV} {x y : List Value} {r : Bool}, leafK P n t = some ks → n ≤ dd →
    eqLs ks a b = some r → RVs g a x → RVs g b y → ∀ w,
    (Op.equalIn dd t (if isAggT P t = some true then .agg x.toArray else x.getD 0 undef) (if isAggT P t = some true then .agg y.toArray else y.getD 0 undef)).run P w = .ok r w := by
  intro n
  induction n with
  | zero => intro dd t ks a b x y r h; simp [leafK] at h
  | succ n ih =>
    intro dd t ks a b x y r h hd he hx hy w
    obtain ⟨dd, rfl⟩ : ∃ m, dd = m + 1 := ⟨dd - 1, by omega⟩
    unfold leafK at h
    have leafcase : ∀ k, ks = [k] → isAggT P t = some false → ∃ p q u v, a = [p] ∧ b = [q] ∧ x = [u] ∧ y = [v] ∧ eqLeaf k p q = some r ∧ RV g p u ∧ RV g q v := by
      intro k hk hag
      subst hk
      match a, b, he with
      | [p], [q], he =>
        simp only [eqLs] at he
        cases hl : eqLeaf k p q with
        | none => simp [hl] at he
        | some z =>
          simp [hl] at he
          subst he
          have l1 := hx.1
          have l2 := hy.1
          match x, y, l1, l2 with
          | [u], [v], _, _ => exact ⟨p, q, u, v, rfl, rfl, rfl, rfl, hl, hx.2 0 p u rfl rfl, hy.2 0 q v rfl rfl⟩
      | [], bb, he => cases bb <;> simp [eqLs] at he
      | [_], [], he => simp [eqLs] at he
      | [_], _ :: _ :: _, he => simp [eqLs] at he
      | _ :: _ :: _, [], he => simp [eqLs] at he
      | _ :: _ :: _, _ :: _, he => simp [eqLs] at he
    split at h <;> rename_i hu hi
    · split at h
      · cases h
        obtain ⟨p, q, u, v, rfl, rfl, rfl, rfl, hl, h1, h2⟩ := leafcase 2 rfl (by simp [isAggT, hu])
        obtain ⟨_, _, hc, _⟩ := leaf_num hl h1 h2
        obtain ⟨m, n', rfl, rfl, rfl⟩ := hc rfl
        simp [isAggT, hu, run_equalIn_bool' w dd t m n' hu]
      · cases h
    · split at h
      · cases h
        obtain ⟨p, q, u, v, rfl, rfl, rfl, rfl, hl, h1, h2⟩ := leafcase 0 rfl (by simp [isAggT, hu])
        obtain ⟨hc, _, _, _⟩ := leaf_num hl h1 h2
        obtain ⟨kd, m, n', rfl, rfl, rfl⟩ := hc rfl
        simp [isAggT, hu, run_equalIn_int w dd t kd _ m n' hu]
      · cases h
    · split at h
      · cases h
        obtain ⟨p, q, u, v, rfl, rfl, rfl, rfl, hl, h1, h2⟩ := leafcase 1 rfl (by simp [isAggT, hu])
        obtain ⟨_, hc, _, _⟩ := leaf_num hl h1 h2
        obtain ⟨m, n', rfl, rfl, rfl⟩ := hc rfl
        simp [isAggT, hu, run_equalIn_string w dd t m n' hu]
      · cases h
    · rename_i fs i
      split at h
      · cases h
      · rename_i hst
        have hst' : P.stoodInHeld t = false := by simpa using hst
        split at h
        · rename_i ks' hf
          cases h
          have hag : isAggT P t = some true := by simp [isAggT, hu]
          rw [if_pos hag, if_pos hag, run_equalIn_struct w dd t _ _ (by rw [fieldsOf_eq hu]; exact hu) hst', fieldsOf_eq hu]
          have key : ∀ (l : List Field) (ks : List Nat) (o : Nat) (r : Bool), l.foldr (fun f acc => match acc, leafK P n f.type with
              | some (q : List Nat × Nat), some ks => if f.name ≠ "_" ∧ f.offset + ks.length = q.2 ∧ 0 < ks.length then some (ks ++ q.1, f.offset) else none
              | _, _ => none) (some ([], i.size)) = some (ks, o) → eqLs ks (a.drop o) (b.drop o) = some r →
              (Op.eqFields dd x.toArray y.toArray l).run P w = .ok r w := by
            intro l
            induction l with
            | nil =>
              intro ks o r h he
              have := leafK_fold n [] _ _ _ h
              simp at this
              obtain ⟨e1, e2⟩ := this
              subst e1
              have h1 := (eqLs_len he)
              cases ha : a.drop o with
              | nil => cases hb : b.drop o with
                | nil => rw [ha, hb] at he; simp [eqLs] at he; subst he; simp [Op.eqFields]
                | cons _ _ => rw [ha, hb] at he; simp [eqLs] at he
              | cons _ _ => rw [ha] at he; simp [eqLs] at he
            | cons f rest ihl =>
              intro ks o r h he
              obtain ⟨k1, k2, o2, e1, e2, e3, e4, e5, e7, e6⟩ := leafK_fold n (f :: rest) _ _ _ h
              subst e3; subst e4
              obtain ⟨z1, z2, he1, he2, hr⟩ := eqLs_append he
              obtain ⟨fi, hfi, hfs, hfk⟩ := leafK_size n e1
              have hla := eqLs_len he1
              simp only [List.length_take, List.length_drop] at hla
              have hxl : f.offset + fi.size ≤ x.length := by have := hx.1; omega
              have hyl : f.offset + fi.size ≤ y.length := by have := hy.1; omega
              have hag : ∃ ag, isAggT P f.type = some ag ∧ (ag = false → fi.size = 1) := by
                rcases hfk with ⟨_, _, h⟩ | ⟨h, h'⟩
                · exact ⟨true, h, by simp⟩
                · exact ⟨false, h, fun _ => by omega⟩
              obtain ⟨ag, hag, hag1⟩ := hag
              have hsub := ih dd (t := f.type) (x := (x.drop f.offset).take k1.length) (y := (y.drop f.offset).take k1.length) e1 (by omega) he1
                ((hx.drop _).take _) ((hy.drop _).take _) w
              have hext : ∀ (z : List Value), f.offset + fi.size ≤ z.length →
                  (if ag then Value.agg (z.toArray.extract f.offset (f.offset + fi.size)) else z.toArray.getD f.offset undef) =
                  (if isAggT P f.type = some true then Value.agg ((z.drop f.offset).take k1.length).toArray else ((z.drop f.offset).take k1.length).getD 0 undef) := by
                intro z hz
                cases ag
                · have h1 := hag1 rfl
                  rw [hag]
                  simp only [Bool.false_eq_true, if_false, Option.some.injEq]
                  rw [← hfs, h1]
                  have hlt : f.offset < z.length := by omega
                  simp [Array.getD, hlt, List.getD_eq_getElem?_getD, List.getElem?_take, List.getElem?_drop]
                · rw [hag]
                  simp only [if_true]
                  congr 1
                  apply Array.ext'
                  simp [← hfs, List.take_drop]
              simp only [Op.eqFields, if_pos e2, Sem.run_bind, part_run hag hfi x.toArray f.offset w (by simpa using hxl) hag1,
                part_run hag hfi y.toArray f.offset w (by simpa using hyl) hag1, Result.andThen_ok]
              rw [hext x hxl, hext y hyl, hsub]
              simp only [Result.andThen_ok]
              have hrest := ihl k2 o2 z2 e6 (by rw [← e5]; simpa [List.drop_drop, Nat.add_comm] using he2)
              cases z1
              · simp [hr]
              · simp only [Bool.not_true, Bool.false_eq_true, if_false, hrest]
                simp [hr]
          exact key fs.toList ks 0 r hf (by simpa using he)
        · cases h
    · cases h


/-! ### the operation -/

theorem eqI1 {t e : TypeId} (d : Nat) (h : P.underlying t = some (.pointer e)) (b : Option Addr) (w : World) : (Op.equalIn (d + 1) t (.pointer none) (.pointer b)).run P w = .ok b.isNone w := by
  simp [Op.equalIn, run_underlying h]
theorem eqI2 {t e : TypeId} (d : Nat) (h : P.underlying t = some (.pointer e)) (a : Addr) (w : World) : (Op.equalIn (d + 1) t (.pointer (some a)) (.pointer none)).run P w = .ok false w := by
  simp [Op.equalIn, run_underlying h]
theorem eqI3 {t k e : TypeId} (d : Nat) (h : P.underlying t = some (.map k e)) (b : Option Nat) (w : World) : (Op.equalIn (d + 1) t (.map none) (.map b)).run P w = .ok b.isNone w := by
  simp [Op.equalIn, run_underlying h]
theorem eqI4 {t k e : TypeId} (d : Nat) (h : P.underlying t = some (.map k e)) (a : Nat) (w : World) : (Op.equalIn (d + 1) t (.map (some a)) (.map none)).run P w = .ok false w := by
  simp [Op.equalIn, run_underlying h]
theorem eqI5 {t : TypeId} {ms : Array (String × TypeId)} (d : Nat) (h : P.underlying t = some (.interface ms)) (w : World) : (Op.equalIn (d + 1) t .nilIface .nilIface).run P w = .ok true w := by
  simp [Op.equalIn, run_underlying h]
theorem eqI6 {t u : TypeId} {ms : Array (String × TypeId)} (d : Nat) (h : P.underlying t = some (.interface ms)) (v : Value) (w : World) : (Op.equalIn (d + 1) t .nilIface (.iface u v)).run P w = .ok false w := by
  simp [Op.equalIn, run_underlying h]
theorem eqI7 {t u : TypeId} {ms : Array (String × TypeId)} (d : Nat) (h : P.underlying t = some (.interface ms)) (v : Value) (w : World) : (Op.equalIn (d + 1) t (.iface u v) .nilIface).run P w = .ok false w := by
  simp [Op.equalIn, run_underlying h]

theorem eqK_ok {t : TypeId} {xo yo : Operand} {e : EK} {a b : AV} {x y : Value} {r : Bool} (h : eqKind P t xo yo = some e) (he : eqK e a b = some r)
    (h1 : RV g a x) (h2 : RV g b y) (w : World) (op : BinOp) :
    (eqGuard op t xo yo x y).run P w = .ok () w ∧ (Op.equal t x y).run P w = .ok r w ∧ (∀ k n, x ≠ .int k n) ∧ (∀ q, x ≠ .string q) ∧ (∀ k n, x ≠ .float k n) ∧ (∀ k n m, x ≠ .complex k n m) := by
  unfold eqKind at h
  unfold Op.equal Op.maxDepth
  split at h <;> rename_i hu
  · cases h
    cases a <;> cases b <;> simp only [eqK, reduceCtorEq, Option.some.injEq] at he
    cases h1; cases h2; subst he
    exact ⟨by simp [eqGuard], run_equalIn_bool' w 9999 t _ _ hu, by simp, by simp, by simp, by simp⟩
  · cases h; simp [eqK] at he
  · cases h; simp [eqK] at he
  · cases h
    cases a <;> cases b <;> simp only [eqK, reduceCtorEq, Option.some.injEq] at he
    all_goals (cases h1; cases h2; subst he)
    all_goals exact ⟨by simp [eqGuard], by first | exact eqI1 9999 hu _ w | exact eqI2 9999 hu _ w | exact eqI3 9999 hu _ w | exact eqI4 9999 hu _ w, by simp, by simp, by simp, by simp⟩
  · cases h
    cases a <;> cases b <;> simp only [eqK, reduceCtorEq, Option.some.injEq] at he
    all_goals (cases h1; cases h2; subst he)
    all_goals exact ⟨by simp [eqGuard], by first | exact eqI1 9999 hu _ w | exact eqI2 9999 hu _ w | exact eqI3 9999 hu _ w | exact eqI4 9999 hu _ w, by simp, by simp, by simp, by simp⟩
  · split at h
    · rename_i hk
      cases h
      cases a <;> cases b <;> simp only [eqK, reduceCtorEq, Option.some.injEq] at he
      all_goals (cases h1; cases h2; subst he)
      all_goals refine ⟨?_, by first | exact eqI5 9999 hu w | exact eqI6 9999 hu _ w | exact eqI7 9999 hu _ w, by simp, by simp, by simp, by simp⟩
      · simp [eqGuard]
      · simp [eqGuard]
      · simp only [Bool.or_eq_true] at hk
        rcases hk with hk | hk
        · cases xo <;> simp [isConst] at hk
          cases op <;> simp [eqGuard]
        · cases yo <;> simp [isConst] at hk
          cases op <;> simp [eqGuard]
    · cases h
  · split at h
    · cases h
    · rename_i hg
      simp only [Option.map_eq_some_iff] at h
      obtain ⟨ks, hk, rfl⟩ := h
      cases a <;> cases b <;> simp only [eqK, reduceCtorEq] at he
      cases h1
      rename_i vs hl hv
      cases h2
      rename_i us hl' hv'
      refine ⟨run_eqGuard_agg w op t xo yo vs us (by simpa using hg), ?_, by simp, by simp, by simp, by simp⟩
      have hag : isAggT P t = some true := by simp [isAggT, hu]
      have := equalIn_leafs (P := P) (g := g) 12 10000 (x := vs.toList) (y := us.toList) hk (by omega) he ⟨by simpa using hl, fun i c v e1 e2 => hv i c v e1 (by simpa using e2)⟩
        ⟨by simpa using hl', fun i c v e1 e2 => hv' i c v e1 (by simpa using e2)⟩ w
      simpa [hag] using this
  · cases h

theorem op_bin {o : Oper} {op : BinOp} {t u : TypeId} {x y : Operand} {x' y' : Opd} {e : EK} (ho : o.op = .binOp op t x y u) (hx : cOpd P t x = some x') (hy : cOpd P u y = some y')
    (hb : cBin op = true) (he : (op = .eql ∨ op = .neq) → eqKind P t x y = some e) {av : AV} (hs : binA op e (ev s x') (ev s y') = some av)
    (hi : Inv B g s.heap w) (hf : FR g d s tm w L R) :
    ∃ v, (execOp (rho tm) o).run P w = .ok (.value v) w ∧ Good B d g w s tm av v w := by
  have hX := opd_ok hx hf
  have hY := opd_ok hy hf
  have nl1 : ∀ t o, ev s x' ≠ .lref t o := by
    intro t o hh
    rw [hh] at hs
    unfold binA at hs
    cases op <;> simp [eqK] at hs
    all_goals (cases e <;> simp [eqK] at hs)
  have nl2 : ∀ t o, ev s y' ≠ .lref t o := by
    intro t o hh
    rw [hh] at hs
    unfold binA at hs
    cases ev s x' <;> cases op <;> simp [eqK] at hs
    all_goals (cases e <;> simp [eqK] at hs)
  have r1 := (hX.1.rv nl1).1
  have r2 := (hY.1.rv nl2).1
  generalize hv1 : rho tm x = v1 at r1
  generalize hv2 : rho tm y = v2 at r2
  have hrun : ∀ w, (execOp (rho tm) o).run P w = ((eqGuard op t x y v1 v2).run P w).andThen fun _ w' => ((binOp op t v1 v2).run P w').andThen fun v w'' => .ok (.value v) w'' := by
    intro w
    simp [execOp, ho, hv1, hv2]
  unfold binA at hs
  split at hs
  · rename_i k a k' b e1 e2
    rw [e1] at r1; rw [e2] at r2
    cases r1; cases r2
    split at hs
    · rename_i hk
      subst hk
      have hg : (eqGuard op t x y (.int k a) (.int k b)).run P w = .ok () w := by cases op <;> simp [eqGuard]
      have fin : ∀ v av, RV g av v → (∀ t o, av ≠ .lref t o) → Tk2 R s.tk av v → (binOp op t (.int k a) (.int k b)).run P w = .ok v w →
          ∃ v, (execOp (rho tm) o).run P w = .ok (.value v) w ∧ Good B d g w s tm av v w := by
        intro v av h1 h2 h3 h4
        exact ⟨v, by rw [hrun, hg]; simp [h4], .same hi hf (RF_of h1 h3) (lrefOk_of h2)⟩
      cases op <;> simp only [cBin, Bool.false_eq_true] at hb <;> simp only [Option.some.injEq] at hs
      all_goals first
        | (subst hs; refine fin _ _ (.int _ _) (by simp) trivial ?_; simp [binOp, Op.intArith]; done)
        | (subst hs; refine fin _ _ (.bool _) (by simp) trivial ?_; simp [binOp, Op.intCmp]; done)
        | (split at hs
           · cases hs
           · rename_i h0; cases hs; refine fin _ _ (.int _ _) (by simp) trivial ?_; simp [binOp, Op.intDiv, h0]; done)
    · cases hs
  · rename_i a b e1 e2
    rw [e1] at r1; rw [e2] at r2
    cases r1; cases r2
    rename_i s1 hs1 s2 hs2
    have hg : (eqGuard op t x y (.string s1) (.string s2)).run P w = .ok () w := by cases op <;> simp [eqGuard]
    have l1 : s1.toList = a := by rw [ByteArray.toList_eq]; exact hs1
    have l2 : s2.toList = b := by rw [ByteArray.toList_eq]; exact hs2
    have fin : ∀ v av, RV g av v → (∀ t o, av ≠ .lref t o) → Tk2 R s.tk av v → (binOp op t (.string s1) (.string s2)).run P w = .ok v w →
        ∃ v, (execOp (rho tm) o).run P w = .ok (.value v) w ∧ Good B d g w s tm av v w := by
      intro v av h1 h2 h3 h4
      exact ⟨v, by rw [hrun, hg]; simp [h4], .same hi hf (RF_of h1 h3) (lrefOk_of h2)⟩
    have z1 : s1.size = a.length := by rw [← hs1]; rfl
    have z2 : s2.size = b.length := by rw [← hs2]; rfl
    cases op <;> simp only [cBin, Bool.false_eq_true] at hb <;> simp only [Option.some.injEq, reduceCtorEq] at hs
    case add =>
      split at hs
      · rename_i hl
        cases hs
        refine fin (.string (s1 ++ s2)) _ (.str _ _ ?_) (by simp) trivial ?_
        · rw [← hs1, ← hs2]; simp [ByteArray.data_append]
        · simp only [binOp, Op.stringOp, z1, z2]
          rw [if_neg]
          · rfl
          · simp [IntKind.max, IntKind.signed, IntKind.bits]; omega
      · cases hs
    all_goals (subst hs; refine fin _ _ (.bool _) (by simp) trivial ?_; simp [binOp, Op.stringOp, l1, l2, ltBytes_eq, beq_list])
  · rename_i hn1 hn2
    cases op <;> simp only [reduceCtorEq, Option.map_eq_some_iff] at hs
    · obtain ⟨r, hr, rfl⟩ := hs
      obtain ⟨h1, h2, h3, h4, h5, h6⟩ := eqK_ok (he (.inl rfl)) hr r1 r2 w .eql
      refine ⟨.bool r, ?_, .same hi hf ⟨.bool _, trivial⟩ (lrefOk_of (by simp))⟩
      rw [hrun, h1]
      simp only [Result.andThen_ok]
      have : (binOp .eql t v1 v2).run P w = .ok (.bool r) w := by
        unfold binOp
        cases v1 <;> first | (exact absurd rfl (h3 _ _)) | (exact absurd rfl (h4 _)) | (exact absurd rfl (h5 _ _)) | (exact absurd rfl (h6 _ _ _)) | simp [h2]
      simp [this]
    · obtain ⟨r, hr, rfl⟩ := hs
      obtain ⟨h1, h2, h3, h4, h5, h6⟩ := eqK_ok (he (.inr rfl)) hr r1 r2 w .neq
      refine ⟨.bool (!r), ?_, .same hi hf ⟨.bool _, trivial⟩ (lrefOk_of (by simp))⟩
      rw [hrun, h1]
      simp only [Result.andThen_ok]
      have : (binOp .neq t v1 v2).run P w = .ok (.bool (!r)) w := by
        unfold binOp
        cases v1 <;> first | (exact absurd rfl (h3 _ _)) | (exact absurd rfl (h4 _)) | (exact absurd rfl (h5 _ _)) | (exact absurd rfl (h6 _ _ _)) | simp [h2]
      simp [this]

end
end Go.PM

/- One operation of the machine against one of the reading: conversions, parts, lengths. -/
namespace Go.PM
section
variable {P : Program} {H : Hints} {B d : Nat} {g : G} {s : St} {tm : Array Value} {w : World} {L : Nat → Option Nat} {R : Rm}

/-- the shape of the conclusion for what only computes -/
def Plain (P : Program) (B d : Nat) (g : G) (s : St) (tm : Array Value) (w : World) (o : Oper) (av : AV) : Prop :=
  ∃ v, (execOp (rho tm) o).run P w = .ok (.value v) w ∧ Good B d g w s tm av v w

theorem Plain.mk {o : Oper} {av : AV} (hi : Inv B g s.heap w) (hf : FR g d s tm w L R) (v : Value) (hr : (execOp (rho tm) o).run P w = .ok (.value v) w)
    (h1 : RV g av v) (h2 : Tk2 R s.tk av v) : Plain P B d g s tm w o av :=
  ⟨v, hr, .same hi hf (RF_of h1 h2) (lrefOk_of (fun t o e => by subst e; cases h1))⟩

theorem op_un {o : Oper} {op : UnOp} {t : TypeId} {x : Operand} {a : Opd} (ho : o.op = .unOp op t x) (hx : cOpd P t x = some a) {av : AV}
    (hs : unA op (ev s a) = some av) (hi : Inv B g s.heap w) (hf : FR g d s tm w L R) : Plain P B d g s tm w o av := by
  cases he : ev s a <;> rw [he] at hs <;> cases op <;> simp only [unA, reduceCtorEq, Option.some.injEq] at hs
  · subst hs
    obtain ⟨h1, h2⟩ := opd_rv hx hf he (by simp)
    generalize hv : rho tm x = v at h1
    cases h1
    exact .mk hi hf _ (by simp [execOp, ho, hv, Op.unary]) (.bool _) trivial
  · subst hs
    obtain ⟨h1, h2⟩ := opd_rv hx hf he (by simp)
    generalize hv : rho tm x = v at h1
    cases h1
    exact .mk hi hf _ (by simp [execOp, ho, hv, Op.unary, Op.intArith]) (.int _ _) trivial

theorem bytesOf_get : ∀ {es : List (List AV)} {l : List UInt8}, bytesOf es = some l → l.length = es.length ∧
    ∀ (i : Nat) e, es[i]? = some e → ∃ n : Int, e = [.int .u8 n] ∧ l[i]? = some (UInt8.ofNat n.toNat)
  | [], l, h => by simp [bytesOf] at h; subst h; exact ⟨rfl, fun i e h => by simp at h⟩
  | e :: r, l, h => by
    unfold bytesOf at h
    split at h
    · cases ‹_ = []›
    · rename_i c r' heq
      cases heq
      split at h
      · rename_i b l' h1 h2
        cases h
        obtain ⟨e1, e2⟩ := bytesOf_get h2
        refine ⟨by simp [e1], fun i e he => ?_⟩
        cases i with
        | zero =>
          simp at he
          subst he
          unfold byteOf at h1
          split at h1
          · cases h1; exact ⟨_, rfl, rfl⟩
          · cases h1
        | succ i => simp at he; simpa using e2 i e he
      · cases h
    · cases h

theorem bytesLoop (P : Program) (F : Value → ByteArray → Sem (ForInStep ByteArray)) (hF : ∀ n s, F (.int .u8 n) s = pure (.yield (s.push (UInt8.ofNat n.toNat)))) :
    ∀ (cs : List Value) (l : List UInt8) (acc : ByteArray) (w : World), cs.length = l.length →
    (∀ (i : Nat) c, cs[i]? = some c → ∃ n : Int, c = .int .u8 n ∧ l[i]? = some (UInt8.ofNat n.toNat)) →
    ((forIn cs acc F).run P w) = .ok ⟨acc.data ++ l.toArray⟩ w
  | [], [], acc, w, _, _ => by simp
  | [], _ :: _, _, _, h, _ => by simp at h
  | _ :: _, [], _, _, h, _ => by simp at h
  | c :: cs, b :: l, acc, w, hl, h => by
    obtain ⟨n, rfl, e⟩ := h 0 _ rfl
    simp at e
    simp only [List.forIn_cons, Sem.run_bind, hF, Sem.run_pure, Result.andThen_ok]
    rw [bytesLoop P F hF cs l _ w (by simpa using hl) (fun i c hc => by simpa using h (i + 1) c (by simpa using hc))]
    congr 1
    simp [ByteArray.push, e]

theorem op_conv {o : Oper} {sr ds : TypeId} {x : Operand} {a : Opd} {c : Cv} (ho : o.op = .convert sr ds x) (hc : cConv P sr ds = some c) (hx : cOpd P sr x = some a) {av : AV}
    (hs : convA c (ev s a) = some av) (hi : Inv B g s.heap w) (hf : FR g d s tm w L R) : Plain P B d g s tm w o av := by
  unfold cConv at hc
  split at hc <;> rename_i e1 e2
  · cases hc
    cases he : ev s a <;> rw [he] at hs <;> simp only [convA, reduceCtorEq, Option.some.injEq] at hs
    subst hs
    obtain ⟨h1, h2⟩ := opd_rv hx hf he (by simp)
    generalize hv : rho tm x = v at h1
    cases h1
    exact .mk hi hf _ (by simp [execOp, ho, hv, convert, run_underlying e1, run_underlying e2, Conv.intToInt]) (.int _ _) trivial
  · cases hc
    cases he : ev s a <;> rw [he] at hs <;> simp only [convA, reduceCtorEq, Option.some.injEq] at hs
    subst hs
    obtain ⟨h1, h2⟩ := opd_rv hx hf he (by simp)
    generalize hv : rho tm x = v at h1
    have h1' := h1
    cases h1
    exact .mk hi hf _ (by simp [execOp, ho, hv, convert, run_underlying e1, run_underlying e2]) h1' trivial
  · split at hc
    · rename_i e hu
      cases hc
      cases he : ev s a <;> rw [he] at hs <;> simp only [convA, reduceCtorEq, Option.map_eq_some_iff] at hs
      rename_i sz es own
      obtain ⟨l, hl, rfl⟩ := hs
      obtain ⟨hlen, hget⟩ := bytesOf_get hl
      have hu8 : P.underlying e = some (.int .u8) := by
        unfold isU8 at hu
        split at hu
        · assumption
        · cases hu
      obtain ⟨h1, h2⟩ := opd_rv hx hf he (by simp)
      generalize hv : rho tm x = v at h1
      cases h1 with
      | sln _ _ ad =>
        have : l = [] := by simpa [bytesOf] using hl.symm
        subst this
        exact .mk hi hf (.string .empty) (by cases ad <;> simp [execOp, ho, hv, convert, run_underlying e1, run_underlying e2, run_underlying hu8, Conv.bytesToString, loadCells, loadCellsFrom]) (.str _ _ rfl) trivial
      | sl _ _ _ b o' cap val hcp hz him hvv =>
        have hsz : ∀ (i : Nat) e, es[i]? = some e → sz = 1 := by
          intro i e h
          obtain ⟨n, rfl, _⟩ := hget i e h
          rw [← hz i _ h]; rfl
        have hcell : ∀ (i : Nat) e, es[i]? = some e → ∃ n : Int, w.cell? ((⟨b, o', none⟩ : Addr).add i) = some (.int .u8 n) ∧ l[i]? = some (UInt8.ofNat n.toNat) := by
          intro i e h
          obtain ⟨n, rfl, hln⟩ := hget i e h
          have k1 := him i _ 0 (.int .u8 n) h rfl
          have k2 := hvv i _ 0 (.int .u8 n) h rfl
          have hs1 := hsz i _ h
          subst hs1
          have k3 := hi.imm _ _ _ k1
          generalize val i 0 = vv at k2 k3
          cases k2
          refine ⟨n, ?_, hln⟩
          rw [Addr.add_mid]
          simpa [cl] using k3
        let cs : List Value := (List.range es.length).map fun i => (w.cell? ((⟨b, o', none⟩ : Addr).add i)).getD undef
        have hcs : cs.length = es.length := by simp [cs]
        have hload : (loadCells ⟨b, o', none⟩ es.length).run P w = .ok cs.toArray w := by
          rw [← hcs]
          refine run_loadCells_list w _ cs fun j v hj => ?_
          have hlt : j < es.length := by rw [← hcs]; exact (List.getElem?_eq_some_iff.1 hj).1
          simp only [cs, List.getElem?_map, List.getElem?_range hlt, Option.map_some, Option.some.injEq] at hj
          obtain ⟨n, hn, _⟩ := hcell j _ (List.getElem?_eq_getElem hlt)
          rw [hn] at hj ⊢
          simpa using hj
        refine .mk hi hf (.string ⟨l.toArray⟩) ?_ (.str _ _ (by simp)) trivial
        simp only [execOp, ho, hv, convert, Sem.run_bind, run_underlying e1, run_underlying e2, run_underlying hu8, Conv.bytesToString, hload, Result.andThen_ok]
        rw [← Array.forIn_toList]
        rw [bytesLoop P _ (fun n s => rfl) cs l .empty w (by rw [hcs, hlen]) (fun i c hc => by
          have hlt : i < es.length := by rw [← hcs]; exact (List.getElem?_eq_some_iff.1 hc).1
          simp only [cs, List.getElem?_map, List.getElem?_range hlt, Option.map_some, Option.some.injEq] at hc
          obtain ⟨n, hn, hl⟩ := hcell i _ (List.getElem?_eq_getElem hlt)
          rw [hn] at hc
          exact ⟨n, by simpa using hc.symm, hl⟩)]
        have : (ByteArray.empty).data ++ l.toArray = l.toArray := by simp [show (ByteArray.empty).data = #[] from rfl]
        simp only [Result.andThen_ok, Sem.run_pure, this]
    · cases hc
  · cases hc

theorem op_mkif {o : Oper} {t : TypeId} {x : Operand} {a : Opd} (ho : o.op = .makeInterface t x) (hx : cOpd P t x = some a) (hc : P.concrete t = true)
    (hn : ∀ u p, ev s a ≠ .lref u p) (hi : Inv B g s.heap w) (hf : FR g d s tm w L R) : Plain P B d g s tm w o (.iface t (ev s a).nrm) := by
  obtain ⟨h1, h2⟩ := opd_rv hx hf rfl hn
  exact .mk hi hf _ (by simp [execOp, ho, run_makeInterface w t _ hc]) (.iface _ _ _ h1.nrm) trivial

theorem opds_any {cs : List Operand} {l : List Opd} (h : cOpdsAny P cs = some l) (hf : FR g d s tm w L R) : l.length = cs.length ∧
    ∀ (i : Nat) a x, l[i]? = some a → cs[i]? = some x → RF g L R s.tk (ev s a) (rho tm x) := by
  induction cs generalizing l with
  | nil => simp [cOpdsAny] at h; subst h; exact ⟨rfl, fun i a x h => by simp at h⟩
  | cons x cs ih =>
    unfold cOpdsAny at h
    split at h
    · rename_i a r h1 h2
      cases h
      obtain ⟨e1, e2⟩ := ih h2
      refine ⟨by simp [e1], fun i a' x' p q => ?_⟩
      cases i with
      | zero => simp at p q; subst p; subst q; exact (opd_ok h1 hf).1
      | succ i => simp at p q; exact e2 i a' x' p q
    · cases h

theorem opds_ok {ts : List TypeId} {cs : List Operand} {l : List Opd} (h : cOpds P ts cs = some l) (hf : FR g d s tm w L R) : l.length = cs.length ∧
    ∀ (i : Nat) a x, l[i]? = some a → cs[i]? = some x → RF g L R s.tk (ev s a) (rho tm x) := by
  induction cs generalizing l ts with
  | nil => cases ts <;> simp [cOpds] at h; subst h; exact ⟨rfl, fun i a x h => by simp at h⟩
  | cons x cs ih =>
    cases ts with
    | nil => simp [cOpds] at h
    | cons t ts =>
      unfold cOpds at h
      split at h
      · rename_i a r h1 h2
        cases h
        obtain ⟨e1, e2⟩ := ih h2
        refine ⟨by simp [e1], fun i a' x' p q => ?_⟩
        cases i with
        | zero => simp at p q; subst p; subst q; exact (opd_ok h1 hf).1
        | succ i => simp at p q; exact e2 i a' x' p q
      · cases h

theorem RF.nrm {a : AV} {v : Value} {k : Nat} (h : RF g L R k a v) : RV g a.nrm v := by
  cases a <;> first | exact h.1.nrm | exact .undef _

theorem nrms_rv {l : List Opd} {cs : List Operand} {k : Nat} (hl : l.length = cs.length) (h : ∀ (i : Nat) a x, l[i]? = some a → cs[i]? = some x → RF g L R k (ev s a) (rho tm x)) :
    ∀ (i : Nat) av v, (nrms (l.map (ev s)))[i]? = some av → (cs.map (rho tm))[i]? = some v → RV g av v := by
  intro i av v h1 h2
  simp only [nrms, List.getElem?_map, Option.map_eq_some_iff] at h1 h2
  obtain ⟨b, ⟨a, ha, rfl⟩, rfl⟩ := h1
  obtain ⟨x, hx, rfl⟩ := h2
  exact (h i a x ha hx).nrm

theorem op_mkfn {o : Oper} {f : Fn} {first caps : Array Operand} {a b : List Opd} (ho : o.op = .makeFunc f first caps) (h1 : cOpdsAny P first.toList = some a)
    (h2 : cOpdsAny P caps.toList = some b) (hi : Inv B g s.heap w) (hf : FR g d s tm w L R) :
    Plain P B d g s tm w o (.fn f (nrms (a.map (ev s))) (nrms (b.map (ev s)))) := by
  obtain ⟨l1, r1⟩ := opds_any h1 hf
  obtain ⟨l2, r2⟩ := opds_any h2 hf
  refine .mk hi hf (.func f (first.map (rho tm)) (caps.map (rho tm))) (by simp [execOp, ho, Instr.makeFunc]) (.fn _ _ _ _ _ (by simp [nrms, l1]) (by simp [nrms, l2]) ?_ ?_) trivial
  · intro i av v e1 e2
    exact nrms_rv l1 r1 i av v e1 (by simpa using e2)
  · intro i av v e1 e2
    exact nrms_rv l2 r2 i av v e1 (by simpa using e2)

theorem op_index {o : Oper} {t : TypeId} {x i : Operand} {a b : Opd} (ho : o.op = .index t x i) (hu : P.underlying t = some .string) (hx : cOpd P t x = some a) (hy : cOpd P 0 i = some b)
    {l : List UInt8} {k : Nat} {c : UInt8} (e1 : ev s a = .str l) (e2 : natI (ev s b) = some k) (e3 : l[k]? = some c) (hi : Inv B g s.heap w) (hf : FR g d s tm w L R) :
    Plain P B d g s tm w o (.int .u8 c.toNat) := by
  obtain ⟨h1, _⟩ := opd_rv hx hf e1 (by simp)
  generalize hv : rho tm x = v at h1
  cases h1
  rename_i st hst
  cases he : ev s b <;> rw [he] at e2 <;> simp only [natI, reduceCtorEq] at e2
  rename_i kd n
  split at e2
  · rename_i hn
    cases e2
    obtain ⟨h3, _⟩ := opd_rv hy hf he (by simp)
    generalize hv' : rho tm i = v' at h3
    cases h3
    refine .mk hi hf _ ?_ (.int _ _) trivial
    have hk : st[n.toNat]? = some c := by
      rw [← hst] at e3
      have hlt : n.toNat < st.data.toList.length := (List.getElem?_eq_some_iff.1 e3).1
      have hsz : n.toNat < st.size := hlt
      rw [getElem?_pos st n.toNat hsz]
      congr 1
      have := (List.getElem?_eq_some_iff.1 e3).2
      rw [← this]
      rfl
    simp only [execOp, ho, hv, hv', Instr.index, asIntOf, Sem.run_bind, Sem.run_pure, run_underlying hu, Result.andThen_ok, if_pos hn, hk]
  · cases e2

theorem op_extract {o : Oper} {x : Operand} {a : Opd} {i : Nat} (ho : o.op = .extract x i) (hx : cOpd P 0 x = some a) {vs : List AV} {av : AV}
    (e1 : ev s a = .tup vs) (e2 : vs[i]? = some av) (hi : Inv B g s.heap w) (hf : FR g d s tm w L R) : Plain P B d g s tm w o av := by
  obtain ⟨h1, h2⟩ := opd_rv hx hf e1 (by simp)
  generalize hv : rho tm x = v at h1 h2
  cases h1 with
  | tup _ us hl h =>
    have hlt : i < us.size := by rw [← hl]; exact (List.getElem?_eq_some_iff.1 e2).1
    have hu : us[i]? = some us[i] := Array.getElem?_eq_getElem hlt
    have hr := h i av _ e2 hu
    refine .mk hi hf us[i] (by simp [execOp, ho, hv, Instr.extract, hu]) hr ?_
    have t1 := h2 i av us[i] e2 hu
    cases av <;> first | exact t1 | exact absurd t1 (fun h => h)

end
end Go.PM

/- One operation of the machine against one of the reading: slicing, places, parts, lengths. -/
namespace Go.PM
section
variable {P : Program} {H : Hints} {B d : Nat} {g : G} {s : St} {tm : Array Value} {w : World} {L : Nat → Option Nat} {R : Rm}

theorem natI_ok {P : Program} {x : Operand} {a : Opd} (hx : cOpd P 0 x = some a) (hf : FR g d s tm w L R) {n : Nat} (h : natI (ev s a) = some n) :
    ∃ k, rho tm x = .int k (n : Int) := by
  cases he : ev s a <;> rw [he] at h <;> simp only [natI, reduceCtorEq] at h
  split at h
  · rename_i k m h0
    cases h
    obtain ⟨h1, _⟩ := opd_rv hx hf he (by simp)
    generalize rho tm x = v at h1
    cases h1
    exact ⟨k, by rw [Int.toNat_of_nonneg h0]⟩
  · cases h

theorem sliceBound_run {k : IntKind} {n y : Nat} (h : n ≤ y) (c : BoundsCode) (w : World) : (Instr.sliceBound (.int k (n : Int)) y c).run P w = .ok n w := by
  simp only [Instr.sliceBound, asIntOf, Sem.run_bind, Sem.run_pure, Result.andThen_ok]
  have : (0 : Int) ≤ (n : Int) ∧ (n : Int) ≤ (y : Int) := ⟨by omega, by omega⟩
  rw [if_pos this]
  simp

theorem cOpt_ok {x : Option Operand} {a : Option Opd} (h : cOpt P x = some a) : (x = none ∧ a = none) ∨ ∃ y b, x = some y ∧ a = some b ∧ cOpd P 0 y = some b := by
  cases x with
  | none => simp [cOpt] at h; exact .inl ⟨rfl, h.symm⟩
  | some y =>
    simp only [cOpt, Option.map_eq_some_iff] at h
    obtain ⟨b, hb, rfl⟩ := h
    exact .inr ⟨y, b, rfl, rfl, hb⟩

theorem bnd_ok {x : Option Operand} {a : Option Opd} (h : cOpt P x = some a) (hf : FR g d s tm w L R) {dflt n : Nat} (hb : bnd (a.map (ev s)) dflt = some n) :
    (x = none ∧ n = dflt) ∨ ∃ y k, x = some y ∧ rho tm y = .int k (n : Int) := by
  rcases cOpt_ok h with ⟨rfl, rfl⟩ | ⟨y, b, rfl, rfl, hy⟩
  · simp [bnd] at hb; exact .inl ⟨rfl, hb.symm⟩
  · simp only [bnd, Option.map_some] at hb
    obtain ⟨k, hk⟩ := natI_ok hy hf hb
    exact .inr ⟨y, k, rfl, hk⟩

theorem bounds_run {isS : Bool} {len cap h l : Nat} {lo hi_ : Option Operand} (h1 : l ≤ h) (h2 : h ≤ cap)
    (hh : (hi_ = none ∧ h = len) ∨ ∃ y k, hi_ = some y ∧ rho tm y = .int k (h : Int)) (hl : (lo = none ∧ l = 0) ∨ ∃ y k, lo = some y ∧ rho tm y = .int k (l : Int)) (w : World) :
    (Instr.sliceBounds isS len cap (lo.map (rho tm)) (hi_.map (rho tm)) none).run P w = .ok (l, h, cap) w := by
  rcases hh with ⟨rfl, rfl⟩ | ⟨y, k, rfl, e⟩ <;> rcases hl with ⟨rfl, rfl⟩ | ⟨y2, k2, rfl, e2⟩ <;>
    simp [Instr.sliceBounds, *, sliceBound_run (P := P) h1, sliceBound_run (P := P) h2]

theorem bounds_run3 {isS : Bool} {len cap h l : Nat} {lo hi_ : Option Operand} {ym : Operand} {km : IntKind} (h1 : l ≤ h) (h2 : h ≤ cap) (hm : rho tm ym = .int km (h : Int))
    (hh : ∃ y k, hi_ = some y ∧ rho tm y = .int k (h : Int)) (hl : (lo = none ∧ l = 0) ∨ ∃ y k, lo = some y ∧ rho tm y = .int k (l : Int)) (w : World) :
    (Instr.sliceBounds isS len cap (lo.map (rho tm)) (hi_.map (rho tm)) (some (rho tm ym))).run P w = .ok (l, h, h) w := by
  obtain ⟨y, k, rfl, e⟩ := hh
  rcases hl with ⟨rfl, rfl⟩ | ⟨y2, k2, rfl, e2⟩ <;>
    simp [Instr.sliceBounds, *, sliceBound_run (P := P) h1, sliceBound_run (P := P) h2, sliceBound_run (P := P) (Nat.le_refl h)]

theorem op_slice_str {o : Oper} {t : TypeId} {x : Operand} {lo hi_ mx : Option Operand} {a : Opd} {l' h' m' : Option Opd} (ho : o.op = .slice t x lo hi_ mx)
    (hu : P.underlying t = some .string) (hx : cOpd P t x = some a) (hl : cOpt P lo = some l') (hh : cOpt P hi_ = some h') (hm : cOpt P mx = some m')
    {zz : Nat} {st : List UInt8} (e1 : ev s a = .str st) {av : AV} (hs : sliceA zz (.str st) (l'.map (ev s)) (h'.map (ev s)) (m'.map (ev s)) = some av)
    (hi : Inv B g s.heap w) (hf : FR g d s tm w L R) : Plain P B d g s tm w o av := by
  obtain ⟨h1, _⟩ := opd_rv hx hf e1 (by simp)
  generalize hv : rho tm x = v at h1
  cases h1
  rename_i bs hbs
  have hsz : bs.size = st.length := by rw [← hbs]; rfl
  simp only [sliceA] at hs
  split at hs
  · rename_i _ h l em eh el
    split at hs
    · rename_i hb
      cases hs
      rcases cOpt_ok hm with ⟨rfl, rfl⟩ | ⟨ym, bm, rfl, rfl, hm⟩
      · have r := bounds_run (P := P) (isS := false) (len := st.length) (cap := st.length) hb.1 hb.2 (bnd_ok hh hf eh) (bnd_ok hl hf el) w
        refine .mk hi hf (.string (bs.extract l h)) ?_ (.str _ _ ?_) trivial
        · simp [execOp, ho, hv, Instr.sliceAt, Instr.slice, run_underlying hu, hsz, r]
        · rw [← hbs]
          simp [ByteArray.data_extract, List.drop_take]
      · simp at em
    · cases hs
  · cases hs

/-- a piece of a slice -/
theorem slice_rv {sz : Nat} {es : List (List AV)} {own : Own} {a : Option Addr} {len cap : Nat} (h : RV g (.sl sz es own) (.slice a len cap)) {l hh m : Nat} (h1 : l ≤ hh) (h2 : hh ≤ es.length) (h3 : hh ≤ m) (h4 : m ≤ cap)
    (own' : Own) : RV g (.sl sz ((es.take hh).drop l) own') (.slice (if m = l then a else a.map (·.add (l * sz))) (hh - l) (m - l)) := by
  cases h with
  | sln =>
    simp at h2 h4
    subst h4; subst h2
    simp at h1; subst h1
    simpa using RV.sln (g := g) sz own' a
  | sl _ _ _ b o _ val hc hz' hi hv =>
    by_cases hml : m = l
    · subst hml
      have : hh = m := by omega
      subst this
      simp only [if_true, Nat.sub_self, List.drop_take, List.take_zero]
      have := RV.sl (g := g) sz [] own' b o 0 (fun _ _ => undef) (Nat.le_refl _) (fun i e he => by simp at he) (fun i e j av he => by simp at he) (fun i e j av he => by simp at he)
      simpa using this
    · rw [if_neg hml]
      simp only [Option.map_some, Addr.add_mid]
      have hlen : ((es.take hh).drop l).length = hh - l := by simp; omega
      have hget : ∀ (i : Nat) e, ((es.take hh).drop l)[i]? = some e → es[l + i]? = some e := by
        intro i e he
        rw [List.getElem?_drop, List.getElem?_take] at he
        split at he
        · exact he
        · cases he
      have := RV.sl (g := g) sz ((es.take hh).drop l) own' b (o + l * sz) (m - l) (fun i j => val (l + i) j) (by rw [hlen]; omega)
        (fun i e he => hz' (l + i) e (hget i e he))
        (fun i e j av he ha => by
          have := hi (l + i) e j av (hget i e he) ha
          rw [← this]
          congr 1
          rw [Nat.add_mul]; omega)
        (fun i e j av he ha => hv (l + i) e j av (hget i e he) ha)
      rwa [hlen] at this

theorem slice_tk {sz : Nat} {es : List (List AV)} {own : Own} {a : Option Addr} {cap : Nat} {k : Nat} (h : RV g (.sl sz es own) (.slice a es.length cap)) (ht : Tk R k (.sl sz es own) (.slice a es.length cap)) {l : Nat} (h1 : l ≤ es.length)  :
    Tk R k (.sl sz (es.drop l) own) (.slice (if cap = l then a else a.map (·.add (l * sz))) (es.length - l) (cap - l)) := by
  cases own with
  | none => trivial
  | flag => trivial
  | exact =>
    intro a' len' cap' e
    have := ht _ _ _ rfl
    simp only [Value.slice.injEq] at e
    rw [← e.2.2, this]; simp
  | tok n =>
    refine ⟨ht.1, fun b x e hr b' o' len' cap' e1 hlt => ?_⟩
    simp only [Value.slice.injEq] at e1
    obtain ⟨e1, _, e3⟩ := e1
    have hc : cap ≠ l := by
      intro hc
      subst hc
      simp at e3
      omega
    rw [if_neg hc] at e1
    cases a with
    | none => simp at e1
    | some ad =>
      cases h with
      | sln => simp at e3; omega
      | sl _ _ _ b0 o0 _ val hc' hz' hi hv =>
        simp only [Option.map_some, Addr.add_mid, Option.some.injEq, Addr.mk.injEq] at e1
        obtain ⟨rfl, rfl, _⟩ := e1
        simp at hlt
        obtain ⟨t1, t2, t3⟩ := ht.2 b x e hr b0 o0 _ _ rfl (by omega)
        refine ⟨t1, ?_, ?_⟩
        · simp only [List.length_drop]
          have : es.length * sz = l * sz + (es.length - l) * sz := by rw [← Nat.add_mul]; congr 1; omega
          omega
        · subst e3
          have : cap * sz = l * sz + (cap - l) * sz := by rw [← Nat.add_mul]; congr 1; omega
          omega


theorem op_slice_sl {o : Oper} {t e : TypeId} {x : Operand} {lo hi_ mx : Option Operand} {a : Opd} {l' h' m' : Option Opd} {i : TypeInfo} (ho : o.op = .slice t x lo hi_ mx)
    (hu : P.underlying t = some (.slice e)) (hie : P.info? e = some i) (hx : cOpd P t x = some a) (hl : cOpt P lo = some l') (hh : cOpt P hi_ = some h') (hm : cOpt P mx = some m')
    {sz : Nat} {es : List (List AV)} {own : Own} (e1 : ev s a = .sl sz es own) {av : AV} (hs : sliceA i.size (.sl sz es own) (l'.map (ev s)) (h'.map (ev s)) (m'.map (ev s)) = some av)
    (hi : Inv B g s.heap w) (hf : FR g d s tm w L R) : Plain P B d g s tm w o av := by
  obtain ⟨h1, ht⟩ := opd_rv hx hf e1 (by simp)
  generalize hv : rho tm x = v at h1 ht
  obtain ⟨ad, cap, hve, hcap⟩ : ∃ ad cap, v = .slice ad es.length cap ∧ es.length ≤ cap := by
    cases h1 with
    | sln => exact ⟨_, 0, rfl, Nat.le_refl _⟩
    | sl _ _ _ b o cap val hc _ _ _ => exact ⟨_, cap, rfl, hc⟩
  subst hve
  have hmul : ∀ l, es = [] → l ≤ es.length → l * i.size = l * sz := by intro l h1 h2; subst h1; simp at h2; subst h2; simp
  simp only [sliceA] at hs
  split at hs
  · rename_i h l eh el
    split at hs
    · rename_i hbb
      obtain ⟨hb, hsz⟩ := hbb
      have hml : l * i.size = l * sz := by
        rcases hsz with h | h
        · rw [h]
        · exact hmul l h (by omega)
      split at hs
      · rename_i em
        cases hs
        rcases cOpt_ok hm with ⟨rfl, rfl⟩ | ⟨ym, bm, rfl, rfl, _⟩
        · have r := bounds_run (P := P) (isS := true) (len := es.length) (cap := cap) hb.1 (Nat.le_trans hb.2 hcap) (bnd_ok hh hf eh) (bnd_ok hl hf el) w
          refine .mk hi hf (.slice (if cap = l then ad else ad.map (·.add (l * sz))) (h - l) (cap - l)) ?_ (slice_rv h1 hb.1 hb.2 (by omega) (Nat.le_refl _) _) ?_
          · simp [execOp, ho, hv, Instr.sliceAt, Instr.slice, run_underlying hu, r, sizeOf_run hie, hml]
          · by_cases hhl : h = es.length
            · subst hhl
              simp only [if_true, List.take_length]
              exact slice_tk h1 ht (by omega)
            · rw [if_neg hhl]; trivial
        · simp at em
      · rename_i m hx' em ehx
        split at hs
        · rename_i mm emm
          split at hs
          · rename_i hmh
            cases hs
            subst hmh
            rcases cOpt_ok hm with ⟨rfl, rfl⟩ | ⟨ym, bm, rfl, rfl, hm2⟩
            · simp at em
            · simp only [Option.map_some, Option.some.injEq] at em
              subst em
              obtain ⟨km, hkm⟩ := natI_ok hm2 hf emm
              rcases bnd_ok hh hf eh with ⟨rfl, _⟩ | hhy
              · rcases cOpt_ok hh with ⟨_, rfl⟩ | ⟨_, _, h', _, _⟩
                · simp at ehx
                · cases h'
              · have r := bounds_run3 (P := P) (isS := true) (len := es.length) (cap := cap) hb.1 (Nat.le_trans hb.2 hcap) hkm hhy (bnd_ok hl hf el) w
                have hmc : (Instr.sliceBound (rho tm ym) cap .slice3Acap).run P w = .ok mm w := by rw [hkm]; exact sliceBound_run (Nat.le_trans hb.2 hcap) _ w
                refine .mk hi hf (.slice (if mm = l then ad else ad.map (·.add (l * sz))) (mm - l) (mm - l)) ?_ (slice_rv h1 hb.1 hb.2 (Nat.le_refl _) (Nat.le_trans hb.2 hcap) _) ?_
                · simp [execOp, ho, hv, Instr.sliceAt, Instr.slice, run_underlying hu, r, sizeOf_run hie, hml]
                · intro a' len' cap' e
                  simp only [Value.slice.injEq] at e
                  rw [← e.2.2]
                  simp; omega
          · cases hs
        · cases hs
      · cases hs
    · cases hs
  · cases hs

end
end Go.PM

/- One operation of the machine against one of the reading: places, fields, elements, type assertions, lengths, structs. -/
namespace Go.PM
section
variable {P : Program} {H : Hints} {B d : Nat} {g : G} {s : St} {tm : Array Value} {w : World} {L : Nat → Option Nat} {R : Rm}

theorem fieldOf_ok {st : TypeId} {f : Nat} {fd : Field} (h : fieldOf P st f = some fd) : ∃ fs, P.underlying st = some (.struct fs) ∧ fs[f]? = some fd := by
  unfold fieldOf at h
  split at h
  · rename_i fs e; exact ⟨fs, e, h⟩
  · cases h

theorem fieldAt_run {st : TypeId} {f : Nat} {fd : Field} {i : TypeInfo} (h : fieldOf P st f = some fd) (hi : P.info? fd.type = some i) (h0 : 0 < i.size) (b o : Nat) (w : World) :
    (Instr.fieldAt st (.pointer (some ⟨b, o, none⟩)) f).run P w = .ok (.pointer (some ⟨b, o + fd.offset, none⟩)) w := by
  obtain ⟨fs, e1, e2⟩ := fieldOf_ok h
  simp [Instr.fieldAt, run_underlying e1, e2, Instr.sureAddr, fieldPlace, sizeOf_run hi, Nat.ne_of_gt h0, Addr.add_mid]

theorem op_faddr {o : Oper} {st : TypeId} {x : Operand} {f : Nat} {a : Opd} {fd : Field} {i : TypeInfo} (ho : o.op = .fieldAddr st x f) (hfd : fieldOf P st f = some fd)
    (hin : P.info? fd.type = some i) (h0 : 0 < i.size) (hx : cOpd P 0 x = some a) {callF : CallF} {av : AV} {s' : St}
    (hs : stepOp callF o.dst (.faddr a fd.offset) s = some (.val av s')) (hi : Inv B g s.heap w) (hf : FR g d s tm w L R) :
    s' = s ∧ Plain P B d g s tm w o av := by
  have h1 := opd_ok hx hf
  simp only [stepOp] at hs
  generalize he : ev s a = e at hs h1
  cases e with
  | lref t off =>
    simp only [Option.some.injEq, ORes.val.injEq] at hs
    obtain ⟨rfl, rfl⟩ := hs
    obtain ⟨b, hb, hv⟩ := h1.1
    refine ⟨rfl, _, ?_, .same hi hf ⟨b, hb, rfl⟩ ?_⟩
    · simp [execOp, ho, hv, fieldAt_run hfd hin h0]
    · intro t' o' e; cases e; exact h1.2 _ _ rfl
  | eref cs off =>
    simp only [Option.some.injEq, ORes.val.injEq] at hs
    obtain ⟨rfl, rfl⟩ := hs
    obtain ⟨h2, _⟩ := h1.1
    generalize hv : rho tm x = v at h2
    cases h2 with
    | eref _ _ b o' val k1 k2 =>
      refine ⟨rfl, .mk hi hf (.pointer (some ⟨b, o' + off + fd.offset, none⟩)) (by simp [execOp, ho, hv, fieldAt_run hfd hin h0]) ?_ trivial⟩
      rw [Nat.add_assoc]
      exact .eref cs (off + fd.offset) b o' val k1 k2
  | ptr id el off =>
    simp only [Option.some.injEq, ORes.val.injEq] at hs
    obtain ⟨rfl, rfl⟩ := hs
    obtain ⟨h2, _⟩ := h1.1
    generalize hv : rho tm x = v at h2
    cases h2 with
    | ptr _ _ _ hid =>
      refine ⟨rfl, .mk hi hf (.pointer (some ⟨g.adr id, el * g.osz id + off + fd.offset, none⟩)) (by simp [execOp, ho, hv, fieldAt_run hfd hin h0]) ?_ trivial⟩
      rw [Nat.add_assoc]
      exact .ptr id el (off + fd.offset) hid
  | _ => simp at hs

/-- a part of a value in a frame -/
theorem getc_rv {k : Nat} {cs : List AV} {vs : Array Value} (h : RV g (.agg cs) (.agg vs)) (ht : Tk2 R k (.agg cs) (.agg vs)) {ag : Bool} {n off : Nat} {av : AV} (hg : getc ag n cs off = some av)
    (h1 : ag = false → n = 1) : off + n ≤ vs.size ∧ RV g av (if ag then .agg (vs.extract off (off + n)) else vs.getD off undef) ∧ Tk2 R k av (if ag then .agg (vs.extract off (off + n)) else vs.getD off undef) := by
  cases h with
  | agg _ _ hl hh =>
    cases ag with
    | true =>
      simp only [getc] at hg
      split at hg
      · rename_i hle
        cases hg
        have hget : ∀ (i : Nat) c x, ((cs.drop off).take n)[i]? = some c → (vs.extract off (off + n))[i]? = some x → cs[off + i]? = some c ∧ vs[off + i]? = some x := by
          intro i c x e1 e2
          rw [List.getElem?_take] at e1
          split at e1
          · rename_i hin
            rw [List.getElem?_drop] at e1
            refine ⟨e1, ?_⟩
            rw [Array.getElem?_extract] at e2
            split at e2
            · exact e2
            · cases e2
          · cases e1
        refine ⟨by omega, .agg _ _ (by simp; omega) fun i c x e1 e2 => ?_, fun i c x e1 e2 => ?_⟩
        · obtain ⟨p, q⟩ := hget i c x e1 e2
          exact hh _ c x p q
        · obtain ⟨p, q⟩ := hget i c x e1 (by simpa [Value.cells] using e2)
          exact ht _ c x p (by simpa [Value.cells] using q)
      · cases hg
    | false =>
      simp only [getc] at hg
      have hn := h1 rfl
      subst hn
      have hlt : off < vs.size := by rw [← hl]; exact (List.getElem?_eq_some_iff.1 hg).1
      have hv : vs[off]? = some vs[off] := Array.getElem?_eq_getElem hlt
      have e : vs.getD off undef = vs[off] := by simp [Array.getD, hlt]
      simp only [Bool.false_eq_true, if_false, e]
      have t := ht off av vs[off] hg (by simp [Value.cells])
      refine ⟨by omega, hh off av _ hg hv, ?_⟩
      cases av <;> first | exact t | exact absurd t (fun h => h)

theorem op_field {o : Oper} {st : TypeId} {x : Operand} {f : Nat} {a : Opd} {fd : Field} {i : TypeInfo} {ag : Bool} (ho : o.op = .field st x f) (hfd : fieldOf P st f = some fd)
    (hin : P.info? fd.type = some i) (hag : isAggT P fd.type = some ag) (h1 : ag = false → i.size = 1) (hx : cOpd P 0 x = some a) {cs : List AV} {av : AV}
    (e1 : ev s a = .agg cs) (e2 : getc ag i.size cs fd.offset = some av) (hi : Inv B g s.heap w) (hf : FR g d s tm w L R) : Plain P B d g s tm w o av := by
  obtain ⟨h2, h3⟩ := opd_rv hx hf e1 (by simp)
  generalize hv : rho tm x = v at h2 h3
  cases h2 with
  | agg _ vs hl hh =>
    obtain ⟨k1, k2, k3⟩ := getc_rv (.agg _ vs hl hh) h3 e2 h1
    obtain ⟨fs, q1, q2⟩ := fieldOf_ok hfd
    refine .mk hi hf _ ?_ k2 k3
    simp [execOp, ho, hv, Instr.field, run_underlying q1, q2, asAgg, part_run hag hin vs fd.offset w k1 h1]

theorem op_iaddr {o : Oper} {t e : TypeId} {x i : Operand} {a b : Opd} {inf : TypeInfo} (ho : o.op = .indexAddr t x i) (hu : P.underlying t = some (.slice e)) (hin : P.info? e = some inf)
    (hx : cOpd P t x = some a) (hy : cOpd P 0 i = some b) {es : List (List AV)} {own : Own} {k : Nat} {cs : List AV}
    (e1 : ev s a = .sl inf.size es own) (e2 : natI (ev s b) = some k) (e3 : es[k]? = some cs) (hi : Inv B g s.heap w) (hf : FR g d s tm w L R) : Plain P B d g s tm w o (.eref cs 0) := by
  obtain ⟨h1, _⟩ := opd_rv hx hf e1 (by simp)
  obtain ⟨kk, hk⟩ := natI_ok hy hf e2
  generalize hv : rho tm x = v at h1
  have hlt : k < es.length := (List.getElem?_eq_some_iff.1 e3).1
  cases h1 with
  | sln => simp at hlt
  | sl _ _ _ bb o' cap val hc hz him hvv =>
    refine .mk hi hf (.pointer (some ⟨bb, o' + k * inf.size + 0, none⟩)) ?_ (.eref cs 0 bb (o' + k * inf.size) (val k) ?_ ?_) trivial
    · have hb : (0 : Int) ≤ (k : Int) ∧ (k : Int) < (es.length : Int) := ⟨by omega, by omega⟩
      simp only [execOp, ho, hv, hk, Instr.indexAt, asIntOf, Sem.run_bind, Sem.run_pure, run_underlying hu, Result.andThen_ok]
      simp [hb, sizeOf_run hin, Addr.add_mid]
    · intro j av hj
      have := him k cs j av e3 hj
      rw [← this]; congr 1; omega
    · intro j av hj
      exact hvv k cs j av e3 hj

theorem zeroV_ok {t : TypeId} {ag : Bool} {z : AV} (h : zeroV P t ag = some z) (w : World) : ∃ v, (zeroValue t).run P w = .ok v w ∧ RV g z v ∧ ∀ R k, Tk1 R k z v := by
  unfold zeroV at h
  split at h
  · rename_i z' i hz hi
    split at h
    · rename_i zl cs hzero
      split at h
      · rename_i hm
        cases h
        have hh := fun R k => mts_get (g := g) (R := R) (k := k) hm
        refine ⟨.agg cs, by simp [zeroValue, typeInfo, hi, hzero], .agg _ _ (by simpa using (hh (fun _ => none) 0).1) fun i a v e1 e2 => ((hh (fun _ => none) 0).2 i a v e1 (by simpa using e2)).1, fun R k i c x e1 e2 => ((hh R k).2 i c x e1 (by simpa [Value.cells] using e2)).2.1⟩
      · cases h
    · rename_i zl v _ hzero
      split at h
      · rename_i hm
        cases h
        refine ⟨v, by simp [zeroValue, typeInfo, hi, hzero], mt1_r hm, fun R k => ?_⟩
        have := mt1_t (R := R) (k := k) hm
        have h1 := mt1_one hm
        cases z <;> first | exact this | simp [AV.one] at h1
      · cases h
    · cases h
  · cases h

theorem op_tassert {o : Oper} {x : Operand} {xt t : TypeId} {a : Opd} {ag : Bool} {z : AV} (ho : o.op = .typeAssert x xt t true) (hc : P.concrete t = true) (hz : zeroV P t ag = some z)
    (hx : cOpd P 0 x = some a) {callF : CallF} {av : AV} {s' : St} (hs : stepOp callF o.dst (.tassert a t z) s = some (.val av s'))
    (hi : Inv B g s.heap w) (hf : FR g d s tm w L R) : s' = s ∧ Plain P B d g s tm w o av := by
  obtain ⟨zv, hz1, hz2, hz3⟩ := zeroV_ok (g := g) hz w
  obtain ⟨ds, hu, hni⟩ : ∃ ds, P.underlying t = some ds ∧ ∀ ms, ds ≠ .interface ms := by
    unfold Program.concrete at hc
    split at hc
    · cases hc
    · cases hc
    · rename_i d1 d2
      cases hq : P.underlying t with
      | none => exact absurd hq d2
      | some ds => exact ⟨ds, rfl, fun ms e => d1 ms (e ▸ hq)⟩
  simp only [stepOp] at hs
  cases he : ev s a <;> rw [he] at hs <;> simp only [reduceCtorEq] at hs
  · rename_i u a'
    obtain ⟨h1, _⟩ := opd_rv hx hf he (by simp)
    generalize hv : rho tm x = v at h1
    cases h1 with
    | iface _ _ v' hr =>
      split at hs
      · rename_i hut
        simp only [Option.some.injEq, ORes.val.injEq] at hs
        obtain ⟨rfl, rfl⟩ := hs
        subst hut
        refine ⟨rfl, .mk hi hf (.tuple #[v', .bool true]) ?_ (.tup _ _ rfl ?_) ?_⟩
        · simp only [execOp, ho, hv, Instr.typeAssert, Sem.run_bind, run_underlying hu, Result.andThen_ok]
          cases ds <;> first | exact absurd rfl (hni _) | simp
        · intro i c x e1 e2
          match i, e1, e2 with
          | 0, e1, e2 => simp at e1 e2; subst e1; subst e2; exact hr.nrm1
          | 1, e1, e2 => simp at e1 e2; subst e1; subst e2; exact .bool _
          | i + 2, e1, e2 => simp at e1
        · intro i c x e1 e2
          match i, e1, e2 with
          | 0, e1, e2 => simp at e1; subst e1; exact Tk1_nrm1 _ _
          | 1, e1, e2 => simp at e1; subst e1; exact trivial
          | i + 2, e1, e2 => simp at e1
      · rename_i hut
        simp only [Option.some.injEq, ORes.val.injEq] at hs
        obtain ⟨rfl, rfl⟩ := hs
        refine ⟨rfl, .mk hi hf (.tuple #[zv, .bool false]) ?_ (.tup _ _ rfl ?_) ?_⟩
        · simp only [execOp, ho, hv, Instr.typeAssert, Sem.run_bind, run_underlying hu, Result.andThen_ok]
          cases ds <;> first | exact absurd rfl (hni _) | simp [hut, hz1]
        · intro i c x e1 e2
          match i, e1, e2 with
          | 0, e1, e2 => simp at e1 e2; subst e1; subst e2; exact hz2
          | 1, e1, e2 => simp at e1 e2; subst e1; subst e2; exact .bool _
          | i + 2, e1, e2 => simp at e1
        · intro i c x e1 e2
          match i, e1, e2 with
          | 0, e1, e2 => simp [tupArr] at e1 e2; subst e1; subst e2; exact hz3 _ _
          | 1, e1, e2 => simp at e1; subst e1; exact trivial
          | i + 2, e1, e2 => simp at e1
  · obtain ⟨h1, _⟩ := opd_rv hx hf he (by simp)
    generalize hv : rho tm x = v at h1
    cases h1
    simp only [Option.some.injEq, ORes.val.injEq] at hs
    obtain ⟨rfl, rfl⟩ := hs
    refine ⟨rfl, .mk hi hf (.tuple #[zv, .bool false]) ?_ (.tup _ _ rfl ?_) ?_⟩
    · simp only [execOp, ho, hv, Instr.typeAssert, Sem.run_bind, run_underlying hu, Result.andThen_ok]
      cases ds <;> first | exact absurd rfl (hni _) | simp [hz1]
    · intro i c x e1 e2
      match i, e1, e2 with
      | 0, e1, e2 => simp at e1 e2; subst e1; subst e2; exact hz2
      | 1, e1, e2 => simp at e1 e2; subst e1; subst e2; exact .bool _
      | i + 2, e1, e2 => simp at e1
    · intro i c x e1 e2
      match i, e1, e2 with
      | 0, e1, e2 => simp [tupArr] at e1 e2; subst e1; subst e2; exact hz3 _ _
      | 1, e1, e2 => simp at e1; subst e1; exact trivial
      | i + 2, e1, e2 => simp at e1

theorem op_len_str {o : Oper} {c : Call} {t : TypeId} {x : Operand} {a : Opd} (ho : o.op = .call c) (hc : c.callee = .builtin .len) (a1 : c.argTypes.toList = [t]) (a2 : c.args.toList = [x])
    (hu : P.underlying t = some .string) (hx : cOpd P t x = some a) {l : List UInt8} (he : ev s a = .str l)
    (hi : Inv B g s.heap w) (hf : FR g d s tm w L R) : Plain P B d g s tm w o (.int .i64 l.length) := by
  have a1 : c.argTypes = #[t] := by apply Array.ext'; simpa using a1
  have a2 : c.args = #[x] := by apply Array.ext'; simpa using a2
  obtain ⟨h1, _⟩ := opd_rv hx hf he (by simp)
  generalize hv : rho tm x = v at h1
  cases h1
  rename_i bs hbs
  refine .mk hi hf (.int .i64 (bs.size : Int)) ?_ ?_ trivial
  · simp [execOp, ho, resolve, hc, invoke, builtin, Builtin.len_, a1, a2, hv, run_underlying hu, goInt]
  · have : (bs.size : Int) = l.length := by rw [← hbs]; rfl
    rw [this]; exact .int _ _

theorem op_len_sl {o : Oper} {c : Call} {t e : TypeId} {x : Operand} {a : Opd} (ho : o.op = .call c) (hc : c.callee = .builtin .len) (a1 : c.argTypes.toList = [t]) (a2 : c.args.toList = [x])
    (hu : P.underlying t = some (.slice e)) (hx : cOpd P t x = some a) {z : Nat} {es : List (List AV)} {own : Own} (he : ev s a = .sl z es own)
    (hi : Inv B g s.heap w) (hf : FR g d s tm w L R) : Plain P B d g s tm w o (.int .i64 es.length) := by
  have a1 : c.argTypes = #[t] := by apply Array.ext'; simpa using a1
  have a2 : c.args = #[x] := by apply Array.ext'; simpa using a2
  obtain ⟨h1, _⟩ := opd_rv hx hf he (by simp)
  generalize hv : rho tm x = v at h1
  obtain ⟨ad, cap, rfl⟩ : ∃ ad cap, v = .slice ad es.length cap := by
    cases h1 with
    | sln => exact ⟨_, _, rfl⟩
    | sl => exact ⟨_, _, rfl⟩
  exact .mk hi hf (.int .i64 (es.length : Int)) (by simp [execOp, ho, resolve, hc, invoke, builtin, Builtin.len_, a1, a2, hv, run_underlying hu, goInt]) (.int _ _) trivial

theorem op_mnmx {o : Oper} {c : Call} {t u : TypeId} {x y : Operand} {a b : Opd} {m : Bool} (ho : o.op = .call c) (hc : c.callee = .builtin (if m then .max else .min)) (a2 : c.args.toList = [x, y])
    (hx : cOpd P t x = some a) (hy : cOpd P u y = some b) {av : AV} (hs : mnmxA m [ev s a, ev s b] = some av)
    (hi : Inv B g s.heap w) (hf : FR g d s tm w L R) : Plain P B d g s tm w o av := by
  have a2 : c.args = #[x, y] := by apply Array.ext'; simpa using a2
  unfold mnmxA at hs
  split at hs
  · rename_i k p k' q heq
    simp only [List.cons.injEq, and_true] at heq
    obtain ⟨e1, e2⟩ := heq
    split at hs
    · rename_i hk
      subst hk
      cases hs
      obtain ⟨h1, _⟩ := opd_rv hx hf e1 (by simp)
      obtain ⟨h2, _⟩ := opd_rv hy hf e2 (by simp)
      generalize hv1 : rho tm x = v1 at h1
      generalize hv2 : rho tm y = v2 at h2
      cases h1; cases h2
      cases m
      · refine .mk hi hf _ ?_ (.int _ _) trivial
        simp only [Bool.false_eq_true, if_false] at hc ⊢
        simp [execOp, ho, resolve, hc, invoke, builtin, Builtin.min_, a2, hv1, hv2, Builtin.min2]
      · refine .mk hi hf _ ?_ (.int _ _) trivial
        simp only [if_true] at hc ⊢
        simp [execOp, ho, resolve, hc, invoke, builtin, Builtin.max_, a2, hv1, hv2, Builtin.max2]
    · cases hs
  · cases hs

end
end Go.PM

/- Memory: new blocks and writes, and what stays. -/
namespace Go.PM

def G.at (g : G) (N : Nat) (f : Nat → Kd) : G := { g with K := fun b o => if b = N then f o else g.K b o }

section
variable {B d : Nat} {g : G} {s : St} {tm : Array Value} {w : World} {L : Nat → Option Nat} {R : Rm} {hp : List HObj}

theorem Inv.fresh (h : Inv B g hp w) (o : Nat) : g.K w.heap.size o = .free := by
  by_cases hk : g.K w.heap.size o = .free
  · exact hk
  · have := h.own _ _ hk
    obtain ⟨v, hv⟩ := Option.isSome_iff_exists.1 this
    exact absurd (cl_lt hv) (Nat.lt_irrefl _)

theorem Inv.ne (h : Inv B g hp w) {b o : Nat} (hk : g.K b o ≠ .free) : b ≠ w.heap.size := by
  intro e; subst e; exact hk (h.fresh o)

theorem at_le (h : Inv B g hp w) (f : Nat → Kd) : g.le (g.at w.heap.size f) := by
  refine ⟨fun b o v hk => ?_, Nat.le_refl _, fun _ _ => rfl, fun _ _ => rfl⟩
  have := h.ne (b := b) (o := o) (by rw [hk]; simp)
  simp [G.at, this, hk]

theorem at_K {b o : Nat} (h : Inv B g hp w) (f : Nat → Kd) (hk : g.K b o ≠ .free) : (g.at w.heap.size f).K b o = g.K b o := by
  simp [G.at, h.ne hk]

theorem ObjR.mono {g' : G} {w' : World} {id : Nat} {h : HObj} (hg : g.le g') (hid : id < g.n) (hk : ∀ b o, (∃ i, g.K b o = .obj i) ∨ (∃ i e c, g.K b o = .osp i e c) → g'.K b o = g.K b o)
    (hc : ∀ o, g.K (g.adr id) o = .obj id → cl w' (g.adr id) o = cl w (g.adr id) o) (ho : ObjR g w id h) : ObjR g' w' id h := by
  cases h with
  | arr sz els =>
    obtain ⟨h1, h2⟩ := ho
    refine ⟨by rw [hg.osz id hid]; exact h1, fun el cs he => ?_⟩
    obtain ⟨h3, h4⟩ := h2 el cs he
    refine ⟨h3, fun c av hav => ?_⟩
    obtain ⟨h5, v, h6, h7, h8⟩ := h4 c av hav
    rw [hg.adr id hid]
    refine ⟨by rw [hk _ _ (.inl ⟨id, h5⟩)]; exact h5, v, by rw [hc _ h5]; exact h6, h7.mono hg, ?_⟩
    cases av <;> first | exact trivial | skip
    rename_i sz' es own
    cases own <;> first | exact trivial | skip
    intro b o len cap e k k1 k2
    have := h8 b o len cap e k k1 k2
    rw [hk _ _ (.inr ⟨_, _, _, this⟩)]; exact this
  | map es => exact ho
  | dead => exact trivial

theorem Inv.alloc (h : Inv B g hp w) (vs : Array Value) (ty : TypeId) (f : Nat → Kd) (hf : ∀ o, f o ≠ .free → o < vs.size) (hi : ∀ o v, f o = .imm v → vs[o]? = some v) :
    Inv B (g.at w.heap.size f) hp (w.alloc (.cells vs ty)) := by
  refine ⟨fun b o v hk => ?_, fun b o hk => ?_, fun b o hk hn => ?_, fun b o hb => ?_, ?_, h.len, h.inj, fun i hi => ?_, fun id ho he => ?_⟩
  · rw [cl_alloc]
    simp only [G.at] at hk
    split at hk
    · rename_i e; rw [if_pos e]; exact hi o v hk
    · rename_i e; rw [if_neg e]; exact h.imm b o v hk
  · rw [cl_alloc]
    simp only [G.at] at hk
    split at hk
    · rename_i e; rw [if_pos e]; simp [hf o hk]
    · rename_i e; rw [if_neg e]; exact h.own b o hk
  · rw [fz_alloc]
    simp only [G.at] at hk hn
    split at hk
    · rename_i e; rw [if_pos e]
    · rename_i e; rw [if_neg e]; rw [if_neg e] at hn; exact h.fz b o hk hn
  · have hne : b ≠ w.heap.size := by have := h.bs; omega
    simp only [G.at, if_neg hne]
    exact h.low b o hb
  · have := h.bs; simp; omega
  · have := h.lt i hi; simp [G.at]; omega
  · have hid : id < g.n := by rw [← h.len]; exact (List.getElem?_eq_some_iff.1 he).1
    refine (h.hp id ho he).mono (at_le h f) hid (fun b o hk => at_K h f ?_) (fun o hk => ?_)
    · rcases hk with ⟨i, e⟩ | ⟨i, e1, e2, e⟩ <;> rw [e] <;> simp
    · rw [cl_alloc, if_neg (h.ne (o := o) (by rw [hk]; simp))]

theorem Keep.alloc (h : Inv B g hp w) (vs : Array Value) (ty : TypeId) (f : Nat → Kd) : Keep B d g w (g.at w.heap.size f) (w.alloc (.cells vs ty)) := by
  refine ⟨at_le h f, fun b o ho => ?_, fun b hb => ?_, rfl, rfl⟩
  · have hk : g.K b o ≠ .free := by intro e; rw [e] at ho; exact ho
    exact ⟨at_K h f hk, by rw [cl_alloc, if_neg (h.ne hk)]⟩
  · have := h.bs
    simp only [World.alloc, Array.getElem?_push]
    rw [if_neg (by omega)]

theorem FR.alloc (hv : Inv B g hp w) (h : FR g d s tm w L R) (vs : Array Value) (ty : TypeId) (f : Nat → Kd) : FR (g.at w.heap.size f) d s tm (w.alloc (.cells vs ty)) L R := by
  refine ⟨h.sz, h.ls, fun t av v h1 h2 => (h.tm t av v h1 h2).mono (at_le hv f), fun t cs h1 => ?_, fun n b x e h1 o h2 h3 => ?_, h.rk, h.lv, h.lk, h.st⟩
  · obtain ⟨b, hb, hh⟩ := h.lc t cs h1
    refine ⟨b, hb, fun j av hj => ?_⟩
    obtain ⟨e1, v, e2, e3, e4⟩ := hh j av hj
    have hk : g.K b j ≠ .free := by rw [e1]; simp
    exact ⟨by rw [at_K hv f hk]; exact e1, v, by rw [cl_alloc, if_neg (hv.ne hk)]; exact e2, e3.mono (at_le hv f), e4⟩
  · have := h.rg n b x e h1 o h2 h3
    rw [at_K hv f (by rw [this]; simp)]; exact this

/-- a local variable is made -/
theorem FR.box (hv : Inv B g hp w) (h : FR g d s tm w L R) {t : Nat} (hl : s.loc[t]? = some none) (vs : Array Value) (ty : TypeId) {cs : List AV} (hlen : cs.length = vs.size)
    (hr : ∀ (i : Nat) c v, cs[i]? = some c → vs[i]? = some v → RV g c v ∧ Tk R s.tk c v) :
    ∃ g' L', Keep B d g w g' (w.alloc (.cells vs ty)) ∧ Inv B g' hp (w.alloc (.cells vs ty)) ∧ FR g' d { s with loc := s.loc.set t (some cs) } tm (w.alloc (.cells vs ty)) L' R ∧
      L' t = some w.heap.size ∧ ∃ cs', ({ s with loc := s.loc.set t (some cs) } : St).loc[t]? = some (some cs') := by
  let f : Nat → Kd := fun o => if o < vs.size then .loc d t else .free
  have hlt : t < s.loc.length := (List.getElem?_eq_some_iff.1 hl).1
  refine ⟨g.at w.heap.size f, fun t' => if t' = t then some w.heap.size else L t', .alloc hv vs ty f, hv.alloc vs ty f ?_ ?_, ?_, by simp, cs, by simp [hlt]⟩
  · intro o ho
    simp only [f] at ho
    split at ho
    · assumption
    · exact absurd rfl ho
  · intro o v ho
    simp only [f] at ho
    split at ho <;> cases ho
  · have h' := h.alloc hv vs ty f
    refine ⟨h.sz, by simp [h.ls], fun t' av v h1 h2 => ?_, fun t' cs' h1 => ?_, h'.rg, h'.rk, h'.lv, h'.lk, fun t1 t2 off h1 => ?_⟩
    · have := h'.tm t' av v h1 h2
      cases av <;> first | exact this | skip
      rename_i t2 off
      obtain ⟨b, hb, e⟩ := this
      refine ⟨b, ?_, e⟩
      have : t2 ≠ t := by
        rintro rfl
        obtain ⟨cs, hcs⟩ := h.st t' t2 off h1
        rw [hl] at hcs; cases hcs
      simp [this, hb]
    · simp only [List.getElem?_set] at h1
      by_cases e : t = t'
      · subst e
        simp only [if_true, hlt] at h1
        cases h1
        refine ⟨w.heap.size, by simp, fun j av hj => ?_⟩
        have hj' : j < vs.size := by rw [← hlen]; exact (List.getElem?_eq_some_iff.1 hj).1
        have hvj : vs[j]? = some vs[j] := Array.getElem?_eq_getElem hj'
        obtain ⟨r1, r2⟩ := hr j av _ hj hvj
        refine ⟨by simp [G.at, f, hj'], vs[j], by rw [cl_alloc]; simp [hj'], r1.mono (at_le hv f), r2⟩
      · rw [if_neg e] at h1
        obtain ⟨b, hb, hh⟩ := h'.lc t' cs' h1
        exact ⟨b, by simp [Ne.symm e, hb], hh⟩
    · by_cases e : t = t2
      · subst e
        exact ⟨cs, by simp [hlt]⟩
      · obtain ⟨cs', hcs'⟩ := h.st t1 t2 off h1
        exact ⟨cs', by simp [e, hcs']⟩

/-! ### writes -/

theorem setCells_heap (b : Nat) : ∀ (vs : List Value) (o : Nat) (w : World), (w.setCells b o vs).heap.size = w.heap.size ∧ (∀ k, k ≠ b → (w.setCells b o vs).heap[k]? = w.heap[k]?) ∧
    (w.setCells b o vs).os = w.os ∧ (w.setCells b o vs).output = w.output
  | [], o, w => ⟨rfl, fun _ _ => rfl, rfl, rfl⟩
  | v :: r, o, w => by
    obtain ⟨h1, h2, h3, h4⟩ := setCells_heap b r (o + 1) (w.setCell ⟨b, o, none⟩ v)
    refine ⟨by rw [World.setCells, h1]; simp [World.setCell], fun k hk => ?_, by rw [World.setCells, h3]; rfl, by rw [World.setCells, h4]; rfl⟩
    rw [World.setCells, h2 k hk]
    simp [World.setCell, Array.getElem?_modify, Ne.symm hk]

theorem cl_setCells_out {b o : Nat} {vs : List Value} {b' o' : Nat} (h : b' = b → o' < o ∨ o + vs.length ≤ o') : cl (w.setCells b o vs) b' o' = cl w b' o' :=
  World.cell?_setCells_out b vs o w ⟨b', o', none⟩ (fun e _ => h e)

theorem cl_setCells_in {b o : Nat} {vs : List Value} (h : ∀ j, j < vs.length → (cl w b (o + j)).isSome = true) {j : Nat} (hj : j < vs.length) : cl (w.setCells b o vs) b (o + j) = some vs[j] :=
  World.cell?_setCells_in b vs o w h j hj

theorem cl_setCells_some {b o : Nat} {vs : List Value} (h : ∀ j, j < vs.length → (cl w b (o + j)).isSome = true) {b' o' : Nat} (hs : (cl w b' o').isSome = true) : (cl (w.setCells b o vs) b' o').isSome = true := by
  by_cases e : b' = b ∧ o ≤ o' ∧ o' < o + vs.length
  · obtain ⟨rfl, h1, h2⟩ := e
    have := cl_setCells_in (w := w) h (j := o' - o) (by omega)
    rw [show o + (o' - o) = o' by omega] at this
    simp [this]
  · rw [cl_setCells_out (fun e1 => by by_cases hlt : o' < o; exact .inl hlt; exact .inr (by subst e1; simp at e; omega))]
    exact hs

theorem fz_setCells {b o : Nat} {vs : List Value} {b' o' : Nat} : fz (w.setCells b o vs) b' o' = fz w b' o' := World.frozen?_setCells b vs o w _

/-- a write to cells that are somebody's own; `x` says whose -/
theorem Inv.write (h : Inv B g hp w) {b o : Nat} {vs : List Value} (hx : ∀ j, j < vs.length → g.K b (o + j) ≠ .free ∧ (∀ v, g.K b (o + j) ≠ .imm v))
    (hob : ∀ (id : Nat) ho, hp[id]? = some ho → ObjR g (w.setCells b o vs) id ho) : Inv B g hp (w.setCells b o vs) := by
  have hs : ∀ j, j < vs.length → (cl w b (o + j)).isSome = true := fun j hj => h.own _ _ (hx j hj).1
  obtain ⟨q1, q2, q3, q4⟩ := setCells_heap b vs o w
  refine ⟨fun b' o' v hk => ?_, fun b' o' hk => cl_setCells_some hs (h.own _ _ hk), fun b' o' hk hn => by rw [fz_setCells]; exact h.fz b' o' hk hn, h.low, by rw [q1]; exact h.bs, h.len, h.inj,
    fun i hi => by rw [q1]; exact h.lt i hi, hob⟩
  rw [cl_setCells_out]
  · exact h.imm _ _ _ hk
  · rintro rfl
    by_cases hlt : o' < o
    · exact .inl hlt
    · by_cases hge : o + vs.length ≤ o'
      · exact .inr hge
      · exfalso
        have := (hx (o' - o) (by omega)).2 v
        rw [show o + (o' - o) = o' by omega] at this
        exact this hk

theorem Keep.write (h : Inv B g hp w) {b o : Nat} {vs : List Value} (hx : ∀ j, j < vs.length → ¬ Outer d (g.K b (o + j))) (hB : B ≤ b) : Keep B d g w g (w.setCells b o vs) := by
  obtain ⟨q1, q2, q3, q4⟩ := setCells_heap b vs o w
  refine ⟨.refl g, fun b' o' ho => ⟨rfl, ?_⟩, fun b' hb => q2 b' (by omega), q3, q4⟩
  rw [cl_setCells_out]
  rintro rfl
  by_cases hlt : o' < o
  · exact .inl hlt
  · by_cases hge : o + vs.length ≤ o'
    · exact .inr hge
    · exfalso
      have := hx (o' - o) (by omega)
      rw [show o + (o' - o) = o' by omega] at this
      exact this ho

theorem Inv.ge (h : Inv B g hp w) {b o : Nat} (hk : g.K b o ≠ .free) (hn : ∀ v, g.K b o ≠ .imm v) : B ≤ b := by
  by_cases hb : b < B
  · rcases h.low b o hb with e | ⟨v, e⟩
    · exact absurd e hk
    · exact absurd e (hn v)
  · omega

end
end Go.PM
