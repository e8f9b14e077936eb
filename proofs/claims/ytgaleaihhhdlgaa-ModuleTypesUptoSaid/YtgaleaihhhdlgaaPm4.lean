/- Append. -/
import Derived.Test.YtgaleaihhhdlgaaPm3
import Derived.Recover
import Derived.Scope
import Derived.Laws.Sem

set_option linter.unusedVariables false
set_option linter.unusedSimpArgs false

namespace Go.PM
section
variable {P : Program} {H : Hints} {B d : Nat} {g : G} {s : St} {tm : Array Value} {w : World} {L : Nat → Option Nat} {R : Rm} {hp : List HObj}

theorem growBy_le (n : Nat) : ∀ (r c : Nat), Builtin.growBy n r c ≤ max c (n + (n + 768) / 4)
  | 0, c => by simp [Builtin.growBy]; omega
  | r + 1, c => by
    unfold Builtin.growBy
    split
    · omega
    · have := growBy_le n r (c + (c + 768) / 4)
      omega

theorem nextcap_le {n c : Nat} (h : c < n) : Builtin.nextslicecap n c ≤ 2 * n + 192 := by
  unfold Builtin.nextslicecap
  split
  · omega
  · split
    · omega
    · have := growBy_le n 4 c
      omega

/-- the cells of a slice's elements -/
theorem slice_cells (hi : Inv B g hp w) {sz : Nat} {es : List (List AV)} {own : Own} {b o cap : Nat} (h : RV g (.sl sz es own) (.slice (some ⟨b, o, none⟩) es.length cap)) (h0 : 0 < sz) :
    ∃ vs : List Value, ERs g sz es vs.toArray ∧ vs.length = es.length * sz ∧ ∀ (k : Nat) v, vs[k]? = some v → cl w b (o + k) = some v := by
  cases h with
  | sln => exact ⟨[], ⟨by simp, fun i e he => by simp at he, fun i e j c he => by simp at he⟩, by simp, fun k v h => by simp at h⟩
  | sl _ _ _ _ _ _ val hc hz him hvv =>
    let vs : List Value := (List.range (es.length * sz)).map fun k => val (k / sz) (k % sz)
    have hlen : vs.length = es.length * sz := by simp [vs]
    have hget : ∀ k, k < es.length * sz → ∃ e av, es[k / sz]? = some e ∧ e[k % sz]? = some av := by
      intro k hk
      have h1 : k / sz < es.length := (Nat.div_lt_iff_lt_mul h0).2 hk
      have h2 : k % sz < sz := Nat.mod_lt _ h0
      refine ⟨es[k / sz], (es[k / sz])[k % sz]'(by rw [hz _ _ (List.getElem?_eq_getElem h1)]; exact h2), List.getElem?_eq_getElem h1, List.getElem?_eq_getElem _⟩
    refine ⟨vs, ⟨by simp [hlen], hz, fun i e j c he hj => ?_⟩, hlen, fun k v hk => ?_⟩
    · have hj' : j < sz := by rw [← hz i e he]; exact (List.getElem?_eq_some_iff.1 hj).1
      have hi' : i < es.length := (List.getElem?_eq_some_iff.1 he).1
      have hlt : i * sz + j < es.length * sz := by
        have : (i + 1) * sz ≤ es.length * sz := Nat.mul_le_mul_right _ (by omega)
        rw [Nat.add_mul] at this; omega
      refine ⟨val i j, ?_, hvv i e j c he hj⟩
      have e1 : (i * sz + j) / sz = i := by rw [Nat.mul_comm, Nat.mul_add_div h0]; simp [Nat.div_eq_of_lt hj']
      have e2 : (i * sz + j) % sz = j := by rw [Nat.mul_comm, Nat.mul_add_mod]; exact Nat.mod_eq_of_lt hj'
      simp only [List.getElem?_toArray, vs, List.getElem?_map, List.getElem?_range hlt, Option.map_some, e1, e2]
    · have hlt : k < es.length * sz := by rw [← hlen]; exact (List.getElem?_eq_some_iff.1 hk).1
      simp only [vs, List.getElem?_map, List.getElem?_range hlt, Option.map_some, Option.some.injEq] at hk
      obtain ⟨e, av, q1, q2⟩ := hget k hlt
      have := him _ e _ av q1 q2
      have e3 : k / sz * sz + k % sz = k := by rw [Nat.mul_comm]; exact Nat.div_add_mod k sz
      rw [e3] at this
      rw [← hk]
      exact hi.imm _ _ _ this

theorem ERs.append {sz : Nat} {e1 e2 : List (List AV)} {v1 v2 : List Value} (h1 : ERs g sz e1 v1.toArray) (h2 : ERs g sz e2 v2.toArray) : ERs g sz (e1 ++ e2) (v1 ++ v2).toArray := by
  obtain ⟨a1, a2, a3⟩ := h1
  obtain ⟨b1, b2, b3⟩ := h2
  simp only [List.size_toArray] at a1 b1
  refine ⟨by simp [a1, b1, Nat.add_mul], fun i e he => ?_, fun i e j c he hj => ?_⟩
  · rw [List.getElem?_append] at he
    split at he
    · exact a2 i e he
    · exact b2 _ e he
  · rw [List.getElem?_append] at he
    split at he
    · rename_i hlt
      obtain ⟨v, q1, q2⟩ := a3 i e j c he hj
      refine ⟨v, ?_, q2⟩
      simp only [List.getElem?_toArray] at q1 ⊢
      rw [List.getElem?_append_left ((List.getElem?_eq_some_iff.1 q1).1)]
      exact q1
    · rename_i hge
      obtain ⟨v, q1, q2⟩ := b3 _ e j c he hj
      refine ⟨v, ?_, q2⟩
      simp only [List.getElem?_toArray] at q1 ⊢
      have e3 : i * sz = e1.length * sz + (i - e1.length) * sz := by rw [← Nat.add_mul]; congr 1; omega
      rw [List.getElem?_append_right (by omega), ← q1]
      congr 1; omega

theorem ERs.mono {g' : G} (hg : g.le g') {sz : Nat} {es : List (List AV)} {vs : Array Value} (h : ERs g sz es vs) : ERs g' sz es vs :=
  ⟨h.1, h.2.1, fun i e j c he hj => let ⟨v, q1, q2⟩ := h.2.2 i e j c he hj; ⟨v, q1, q2.mono hg⟩⟩

/-- a slice over cells that nobody will write -/
theorem ERs.rv {sz : Nat} {es : List (List AV)} {vs : List Value} (h : ERs g sz es vs.toArray) {b o cap : Nat} (hc : es.length ≤ cap) (hk : ∀ (k : Nat) v, vs[k]? = some v → g.K b (o + k) = .imm v) (own : Own) :
    RV g (.sl sz es own) (.slice (some ⟨b, o, none⟩) es.length cap) := by
  obtain ⟨a1, a2, a3⟩ := h
  refine .sl sz es own b o cap (fun i j => (vs[i * sz + j]?).getD undef) hc a2 (fun i e j av he hj => ?_) (fun i e j av he hj => ?_)
  · obtain ⟨v, q1, q2⟩ := a3 i e j av he hj
    simp only [List.getElem?_toArray] at q1
    rw [q1]; exact hk _ _ q1
  · obtain ⟨v, q1, q2⟩ := a3 i e j av he hj
    simp only [List.getElem?_toArray] at q1
    rw [q1]; exact q2

/-- cells of a room are written, for good -/
def G.claim (g : G) (b o : Nat) (vs : List Value) : G :=
  { g with K := fun b' o' => if b' = b ∧ o ≤ o' ∧ o' < o + vs.length then .imm (vs.getD (o' - o) undef) else g.K b' o' }

theorem claim_in {b o : Nat} {vs : List Value} {k : Nat} {v : Value} (h : vs[k]? = some v) : (g.claim b o vs).K b (o + k) = .imm v := by
  have hlt : k < vs.length := (List.getElem?_eq_some_iff.1 h).1
  simp only [G.claim]
  rw [if_pos ⟨trivial, by omega, by omega⟩]
  simp [List.getD_eq_getElem?_getD, show o + k - o = k by omega, h]

theorem claim_out {b o : Nat} {vs : List Value} {b' o' : Nat} (h : ¬ (b' = b ∧ o ≤ o' ∧ o' < o + vs.length)) : (g.claim b o vs).K b' o' = g.K b' o' := by
  simp only [G.claim]; rw [if_neg h]

theorem claim_ok (hi : Inv B g hp w) (hf : FR g d s tm w L R) {b o : Nat} {vs : List Value} {k : Nat} (hK : ∀ j, j < vs.length → g.K b (o + j) = .tok d k) (hR : ∀ m r, R m = some r → m ≠ k) :
    Keep B d g w (g.claim b o vs) (w.setCells b o vs) ∧ Inv B (g.claim b o vs) hp (w.setCells b o vs) ∧ FR (g.claim b o vs) d s tm (w.setCells b o vs) L R := by
  have hin : ∀ b' o', (b' = b ∧ o ≤ o' ∧ o' < o + vs.length) → g.K b' o' = .tok d k := by
    rintro b' o' ⟨rfl, h1, h2⟩
    have := hK (o' - o) (by omega)
    rwa [show o + (o' - o) = o' by omega] at this
  have hle : g.le (g.claim b o vs) := by
    refine ⟨fun b' o' v h => ?_, Nat.le_refl _, fun _ _ => rfl, fun _ _ => rfl⟩
    rw [claim_out]; exact h
    intro hh
    rw [hin _ _ hh] at h; cases h
  have hsome : ∀ j, j < vs.length → (cl w b (o + j)).isSome = true := fun j hj => hi.own _ _ (by rw [hK j hj]; simp)
  have hkeep : ∀ b' o', (∀ x, g.K b' o' = x → x ≠ .tok d k) → (g.claim b o vs).K b' o' = g.K b' o' ∧ cl (w.setCells b o vs) b' o' = cl w b' o' := by
    intro b' o' h
    have hn : ¬ (b' = b ∧ o ≤ o' ∧ o' < o + vs.length) := fun hh => h _ rfl (hin _ _ hh)
    refine ⟨claim_out hn, cl_setCells_out (fun e => ?_)⟩
    by_cases hlt : o' < o
    · exact .inl hlt
    · exact .inr (by simp [e] at hn; omega)
  obtain ⟨p1, p2, p3, p4⟩ := setCells_heap b vs o w
  have hBb : 0 < vs.length → B ≤ b := fun h => hi.ge (b := b) (o := o + 0) (by rw [hK 0 h]; simp) (by rw [hK 0 h]; simp)
  have hne : vs = [] → w.setCells b o vs = w := by rintro rfl; rfl
  refine ⟨⟨hle, fun b' o' ho => hkeep b' o' (fun x hx e => by rw [hx, e] at ho; simp [Outer] at ho), fun b' hb => ?_, p3, p4⟩, ?_, ?_⟩
  · by_cases h : 0 < vs.length
    · exact p2 b' (by have := hBb h; omega)
    · rw [hne (List.eq_nil_of_length_eq_zero (by omega))]
  · refine ⟨fun b' o' v hk => ?_, fun b' o' hk => ?_, fun b' o' hk hn => ?_, fun b' o' hb => ?_, by rw [p1]; exact hi.bs, hi.len, hi.inj, fun i h => by rw [p1]; exact hi.lt i h, fun id ho he => ?_⟩
    · by_cases hh : b' = b ∧ o ≤ o' ∧ o' < o + vs.length
      · obtain ⟨rfl, h1, h2⟩ := hh
        have hj : o' - o < vs.length := by omega
        have := claim_in (g := g) (b := b') (o := o) (List.getElem?_eq_getElem hj)
        rw [show o + (o' - o) = o' by omega, hk] at this
        cases this
        have := cl_setCells_in hsome hj
        rwa [show o + (o' - o) = o' by omega] at this
      · rw [claim_out hh] at hk
        rw [cl_setCells_out]
        · exact hi.imm _ _ _ hk
        · intro e
          by_cases hlt : o' < o
          · exact .inl hlt
          · exact .inr (by simp [e] at hh; omega)
    · refine cl_setCells_some hsome ?_
      by_cases hh : b' = b ∧ o ≤ o' ∧ o' < o + vs.length
      · exact hi.own _ _ (by rw [hin _ _ hh]; simp)
      · rw [claim_out hh] at hk
        exact hi.own _ _ hk
    · rw [fz_setCells]
      by_cases hh : b' = b ∧ o ≤ o' ∧ o' < o + vs.length
      · exact hi.fz _ _ (by rw [hin _ _ hh]; simp) (by rw [hin _ _ hh]; simp)
      · rw [claim_out hh] at hk hn
        exact hi.fz _ _ hk hn
    · by_cases hh : b' = b ∧ o ≤ o' ∧ o' < o + vs.length
      · obtain ⟨rfl, h1, h2⟩ := hh
        have := hBb (by omega)
        omega
      · rw [claim_out hh]; exact hi.low b' o' hb
    · refine (hi.hp id ho he).mono hle (by rw [← hi.len]; exact (List.getElem?_eq_some_iff.1 he).1) (fun b' o' hk => (hkeep b' o' ?_).1) (fun o' hk => (hkeep _ o' ?_).2)
      · rcases hk with ⟨i, e⟩ | ⟨i, e1, e2, e⟩ <;> rw [e] <;> rintro x rfl <;> simp
      · rw [hk]; rintro x rfl; simp
  · refine ⟨hf.sz, hf.ls, fun t av v h1 h2 => (hf.tm t av v h1 h2).mono hle, fun t cs h1 => ?_, fun n b1 x e h1 o1 h2 h3 => ?_, hf.rk, hf.lv, hf.lk, hf.st⟩
    · obtain ⟨b1, hb1, hh1⟩ := hf.lc t cs h1
      refine ⟨b1, hb1, fun j av hj => ?_⟩
      obtain ⟨q0, v, q1, q2, q3⟩ := hh1 j av hj
      obtain ⟨r1, r2⟩ := hkeep b1 j (by rw [q0]; rintro x rfl; simp)
      exact ⟨r1.trans q0, v, r2.trans q1, q2.mono hle, q3⟩
    · have := hf.rg n b1 x e h1 o1 h2 h3
      rw [(hkeep b1 o1 (by rw [this]; rintro x rfl; simp; exact hR n _ h1)).1]
      exact this


/-! ### the operation -/

theorem Inv.drawn (hi : Inv B g hp w) (k : Nat) : Inv B g hp { w with drawn := k } := ⟨hi.imm, hi.own, hi.fz, hi.low, hi.bs, hi.len, hi.inj, hi.lt, hi.hp⟩
theorem FR.drawn (hf : FR g d s tm w L R) (k : Nat) : FR g d s tm { w with drawn := k } L R := ⟨hf.sz, hf.ls, hf.tm, hf.lc, hf.rg, hf.rk, hf.lv, hf.lk, hf.st⟩
theorem Keep.drawn (k : Nat) : Keep B d g w g { w with drawn := k } := ⟨.refl g, fun _ _ _ => ⟨rfl, rfl⟩, fun _ _ => rfl, rfl, rfl⟩

theorem firstCells_sl {sz : Nat} {vs : List Value} {n : Nat} {b o len cap : Nat} (hl : vs.length = n * sz) (h : ∀ (k : Nat) v, vs[k]? = some v → cl w b (o + k) = some v) :
    (Builtin.firstCells sz n (.slice (some ⟨b, o, none⟩) len cap)).run P w = .ok vs.toArray w := by
  simp only [Builtin.firstCells]
  rw [← hl]
  exact run_loadCells_list w _ vs (fun j v hj => by rw [Addr.add_mid]; exact h j v hj)

/-- what the appended operand gives: so many elements, their cells -/
structure Src (P : Program) (g : G) (w : World) (sz : Nat) (x : Value) (es : List (List AV)) (vs : List Value) : Prop where
  rows : ERs g sz es vs.toArray
  len : (Builtin.lenOf x).run P w = .ok es.length w
  cells : ∀ k, (Builtin.firstCells sz es.length x).run P { w with drawn := k } = .ok vs.toArray { w with drawn := k }
  one : ∀ v ∈ vs, v.oneCell' = true

/-- the destination, whatever its room -/
theorem append_core {t u e : TypeId} {inf : TypeInfo} (hu : P.underlying t = some (.slice e)) (hin : P.info? e = some inf) (hz : ∃ z, inf.zero = some z ∧ z.cells.size = inf.size) (h0 : 0 < inf.size) (hb : 0 < inf.bytes) (hb2 : inf.bytes ≤ 4096)
    (hnu : ∃ du, P.underlying u = some du ∧ ∀ k, du ≠ .int k) {ty : TypeId} {es es2 : List (List AV)} {own : Own} {dst x : Value} {vs2 : List Value} (hd : RV g (.sl inf.size es own) dst)
    (hroom : ∀ b o cap, dst = .slice (some ⟨b, o, none⟩) es.length cap → ∀ k, es.length * inf.size ≤ k → k < cap * inf.size → g.K b (o + k) = .tok d s.tk)
    (hs : Src P g w inf.size x es2 vs2) (hlen : (es ++ es2).length ≤ maxLen) (hi : Inv B g s.heap w) (hf : FR g d s tm w L R) :
    ∃ v w' g', (Builtin.append_ #[t, u] ty #[dst, x]).run P w = .ok v w' ∧ Keep B d g w g' w' ∧ Inv B g' s.heap w' ∧
      FR g' d { s with live := s.tk :: s.live, tk := s.tk + 1 } tm w' L (fun m => if m = s.tk then some (spareOf inf.size (es ++ es2).length v) else R m) ∧ RV g' (.sl inf.size (es ++ es2) .none) v := by
  have hmax : (es ++ es2).length ≤ 17179869184 := hlen
  have hRk : ∀ m r, R m = some r → m ≠ s.tk := fun m r h => by have := hf.rk m r h; omega
  have hsum : (es ++ es2).length = es.length + es2.length := by simp
  obtain ⟨du, hu2, hnu⟩ := hnu
  have hzeros : (match du with | .int _ => true | _ => false) = false := by
    cases du with
    | int k => exact absurd rfl (hnu k)
    | _ => rfl
  -- where there is room
  obtain ⟨ad, cap, rfl⟩ : ∃ ad cap, dst = .slice ad es.length cap := by
    cases hd with
    | sln => exact ⟨_, _, rfl⟩
    | sl => exact ⟨_, _, rfl⟩
  have hcap : es.length ≤ cap := by
    cases hd with
    | sln => exact Nat.le_refl _
    | sl _ _ _ _ _ _ _ hc => exact hc
  have hvs2 : vs2.length = es2.length * inf.size := by simpa using hs.rows.1
  by_cases hroomy : es.length + es2.length ≤ cap
  · -- in place
    by_cases hz0 : cap = 0 ∧ es = []
    · obtain ⟨rfl, rfl⟩ := hz0
      have he2 : es2 = [] := List.eq_nil_of_length_eq_zero (by omega)
      subst he2
      refine ⟨.slice ad 0 0, w, g, ?_, .refl B d g w, hi, hf.gain (spareOf inf.size _ (.slice ad 0 0)) (fun o h1 h2 => by cases ad <;> simp [spareOf] at h1 h2 <;> omega), .sln _ _ _⟩
      have hfc := hs.cells w.drawn
      simp only [List.length_nil] at hfc
      have hv2 : vs2 = [] := List.eq_nil_of_length_eq_zero (by simpa using hvs2)
      subst hv2
      cases ad <;> simp [Builtin.append_, run_underlying hu, run_underlying hu2, sizeOf_run hin, hs.len, hzeros, hfc, storeCells]
    cases ad with
    | none => exact absurd (by cases hd; exact ⟨rfl, rfl⟩) hz0
    | some a =>
      obtain ⟨b, o, hao⟩ : ∃ b o, a = ⟨b, o, none⟩ := by
        cases hd with
        | sln => exact absurd ⟨rfl, rfl⟩ hz0
        | sl => exact ⟨_, _, rfl⟩
      subst hao
      obtain ⟨vs1, r1, l1, c1⟩ := slice_cells hi hd h0
      have hmul : (es.length + es2.length) * inf.size ≤ cap * inf.size := Nat.mul_le_mul_right _ hroomy
      rw [Nat.add_mul] at hmul
      have hK : ∀ j, j < vs2.length → g.K b (o + es.length * inf.size + j) = .tok d s.tk := by
        intro j hj
        have := hroom b o cap rfl (es.length * inf.size + j) (by omega) (by omega)
        rwa [← Nat.add_assoc] at this
      obtain ⟨k1, i1, f1⟩ := claim_ok hi hf hK hRk
      have hrun := run_storeCells_cells (P := P) b (o + es.length * inf.size) vs2 0 w (fun j hj => by simpa [cl] using hi.own _ _ (by rw [hK j hj]; simp)) (fun j hj => by simpa [fz] using hi.fz _ _ (by rw [hK j hj]; simp) (by rw [hK j hj]; simp)) hs.one
      simp only [Nat.add_zero] at hrun
      have hle := k1.le
      refine ⟨.slice (some ⟨b, o, none⟩) (es.length + es2.length) cap, w.setCells b (o + es.length * inf.size) vs2, g.claim b (o + es.length * inf.size) vs2, ?_, k1, i1, f1.gain _ (fun p h1 h2 => ?_), ?_⟩
      · have hfc := hs.cells w.drawn
        simp [Builtin.append_, run_underlying hu, run_underlying hu2, sizeOf_run hin, hs.len, hzeros, hroomy, hfc, Addr.add_mid, hrun]
      · simp only [spareOf, hsum] at h1 h2 ⊢
        rw [claim_out (by rw [hvs2]; rw [Nat.add_mul] at h1; omega)]
        have := hroom b o cap rfl (p - o) (by rw [Nat.add_mul] at h1; omega) (by omega)
        rwa [show o + (p - o) = p by rw [Nat.add_mul] at h1; omega] at this
      · have hE := (ERs.mono hle r1).append (ERs.mono hle hs.rows)
        have := hE.rv (b := b) (o := o) (cap := cap) (by omega) (fun k v hk => ?_) .none
        · rwa [hsum] at this
        · rw [List.getElem?_append] at hk
          split at hk
          · rename_i hlt
            have := hi.imm
            -- an elder cell
            cases hd with
            | sln => simp at l1; subst l1; simp at hlt
            | sl _ _ _ _ _ _ val hc hz' him hvv =>
              have h1 : k / inf.size < es.length := (Nat.div_lt_iff_lt_mul h0).2 (by omega)
              have h2 : k % inf.size < inf.size := Nat.mod_lt _ h0
              have q1 : es[k / inf.size]? = some es[k / inf.size] := List.getElem?_eq_getElem h1
              have q2 : (es[k / inf.size])[k % inf.size]? = some ((es[k / inf.size])[k % inf.size]'(by rw [hz' _ _ q1]; exact h2)) := List.getElem?_eq_getElem _
              have q3 := him _ _ _ _ q1 q2
              rw [show k / inf.size * inf.size + k % inf.size = k by rw [Nat.mul_comm]; exact Nat.div_add_mod k inf.size] at q3
              have q4 := hi.imm _ _ _ q3
              rw [c1 k v hk] at q4
              cases q4
              exact hle.imm _ _ _ q3
          · rename_i hge
            have := claim_in (g := g) (b := b) (o := o + es.length * inf.size) hk
            rwa [show o + es.length * inf.size + (k - vs1.length) = o + k by omega] at this
  · -- a new block
    obtain ⟨z, hz1, hz2⟩ := hz
    have hnc := nextcap_le (n := es.length + es2.length) (c := cap) (by omega)
    have hns : ¬ (Builtin.nextslicecap (es.length + es2.length) cap * inf.bytes > 2 ^ 48) := by
      have : Builtin.nextslicecap (es.length + es2.length) cap * inf.bytes ≤ (2 * 17179869184 + 192) * 4096 := Nat.mul_le_mul (by omega) hb2
      omega
    obtain ⟨vs1, r1, l1, hfc1⟩ : ∃ vs1 : List Value, ERs g inf.size es vs1.toArray ∧ vs1.length = es.length * inf.size ∧
        ∀ k, (Builtin.firstCells inf.size es.length (.slice ad es.length cap)).run P { w with drawn := k } = .ok vs1.toArray { w with drawn := k } := by
      by_cases hz0 : es = []
      · subst hz0
        exact ⟨[], ⟨by simp, fun i e h => by simp at h, fun i e j c h => by simp at h⟩, by simp, fun k => by cases ad <;> simp [Builtin.firstCells, loadCells, loadCellsFrom]⟩
      cases ad with
      | none => exact absurd (by cases hd; rfl) hz0
      | some a =>
        obtain ⟨b, o, hao⟩ : ∃ b o, a = ⟨b, o, none⟩ := by
          cases hd with
          | sln => exact absurd rfl hz0
          | sl => exact ⟨_, _, rfl⟩
        subst hao
        obtain ⟨vs1, r1, l1, c1⟩ := slice_cells hi hd h0
        exact ⟨vs1, r1, l1, fun k => firstCells_sl l1 c1⟩
    let need := es.length + es2.length
    let newCap := need + w.tape w.drawn (.appendCap need cap e) % (2 ^ 63 - need)
    have hnewge : need ≤ newCap := Nat.le_add_right _ _
    let row : Array Value := (vs1 ++ vs2).toArray ++ Builtin.zeroCells z.cells (newCap - need)
    have hrow : row.size = newCap * inf.size := by
      simp only [row, Array.size_append, List.size_toArray, List.length_append, l1, hvs2, Builtin.zeroCells, Array.size_map, Array.size_range, hz2]
      rw [← Nat.add_mul, ← Nat.add_mul]
      congr 1
      omega
    let f : Nat → Kd := fun p => match (vs1 ++ vs2)[p]? with | some v => .imm v | none => if p < row.size then .tok d s.tk else .free
    have hlen12 : (vs1 ++ vs2).length = need * inf.size := by simp only [List.length_append, l1, hvs2, need, Nat.add_mul]
    have hff : ∀ p, f p ≠ .free → p < row.size := by
      intro p hp'
      simp only [f] at hp'
      split at hp'
      · rename_i h
        have h1 := (List.getElem?_eq_some_iff.1 h).1
        have : need * inf.size ≤ newCap * inf.size := Nat.mul_le_mul_right _ hnewge
        omega
      · split at hp'
        · assumption
        · exact absurd rfl hp'
    have hfi : ∀ p v, f p = .imm v → row[p]? = some v := by
      intro p v hp'
      simp only [f] at hp'
      split at hp'
      · rename_i h
        cases hp'
        have h1 := (List.getElem?_eq_some_iff.1 h).1
        simp only [row]
        rw [Array.getElem?_append_left (by simpa using h1)]
        simpa using h
      · split at hp' <;> cases hp'
    have hi' := hi.drawn (w.drawn + 1)
    have hf' := hf.drawn (w.drawn + 1)
    have k1 : Keep B d g w (g.at w.heap.size f) (World.alloc { w with drawn := w.drawn + 1 } (.cells row e)) := (Keep.drawn (w.drawn + 1)).trans (.alloc hi' row e f)
    have i1 := hi'.alloc row e f hff hfi
    have f1 := hf'.alloc hi' row e f
    refine ⟨.slice (some ⟨w.heap.size, 0, none⟩) need newCap, World.alloc { w with drawn := w.drawn + 1 } (.cells row e), g.at w.heap.size f, ?_, k1, i1, f1.gain _ (fun p h1 h2 => ?_), ?_⟩
    · have hfc : (Builtin.firstCells inf.size es2.length x).run P w.drew = .ok vs2.toArray w.drew := hs.cells (w.drawn + 1)
      have hfc0 : (Builtin.firstCells inf.size es.length (.slice ad es.length cap)).run P w.drew = .ok vs1.toArray w.drew := hfc1 (w.drawn + 1)
      have hnr : ∀ (w : World) cs, (newRow e cs).run P w = .ok ⟨w.heap.size, 0, none⟩ (w.alloc (.cells cs e)) := by
        intro w cs; simp only [newRow, Sem.run_bind, run_newObj, Result.andThen_ok, Sem.run_pure]; rfl
      have hti : ∀ w, (typeInfo e).run P w = .ok inf w := by intro w; simp [typeInfo, hin]
      have hzv : ∀ w, (zeroValue e).run P w = .ok z w := by intro w; simp [zeroValue, typeInfo, hin, hz1]
      have hns' : ¬ (281474976710656 < Builtin.nextslicecap (es.length + es2.length) cap * inf.bytes) := by omega
      simp [Builtin.append_, run_underlying hu, sizeOf_run hin, run_underlying hu2, hzeros, hs.len, hroomy, hti, hzv, hns', hfc0, hfc, hnr, Nat.ne_of_gt hb, Question.forced, Question.cut]
      simp [row, need, newCap]
      congr 2
      apply Array.ext'
      simp
    · simp only [spareOf, hsum] at h1 h2 ⊢
      have hnone : (vs1 ++ vs2)[p]? = none := List.getElem?_eq_none (by rw [hlen12]; simp only [need]; omega)
      simp only [G.at, if_true, f, hnone]
      rw [if_pos (by rw [hrow]; omega)]
    · have hle := k1.le
      have hE := (ERs.mono hle r1).append (ERs.mono hle hs.rows)
      have := hE.rv (b := w.heap.size) (o := 0) (cap := newCap) (by rw [hsum]; exact hnewge) (fun k v hk => by simp [G.at, f, hk]) .none
      rwa [hsum] at this

end
end Go.PM

/- Append, as an operation. -/
namespace Go.PM
section
variable {P : Program} {H : Hints} {B d : Nat} {g : G} {s : St} {tm : Array Value} {w : World} {L : Nat → Option Nat} {R : Rm} {hp : List HObj}

theorem src_sl {z sz : Nat} {es : List (List AV)} {own : Own} {x : Value} (h0 : 0 < sz) (hz : z = sz ∨ es = []) (h1 : es.all (fun c => c.all AV.one) = true) (hi : Inv B g hp w) (h : RV g (.sl z es own) x) :
    ∃ vs, Src P g w sz x es vs := by
  have nil : es = [] → ERs g sz es ([] : List Value).toArray := by
    rintro rfl
    exact ⟨by simp, fun i e he => by simp at he, fun i e j c he => by simp at he⟩
  cases h with
  | sln _ _ ad =>
    exact ⟨[], nil rfl, by simp [Builtin.lenOf], fun k => by cases ad <;> simp [Builtin.firstCells, loadCells, loadCellsFrom], by simp⟩
  | sl _ _ _ b o cap val hc hz' him hvv =>
    rcases hz with rfl | rfl
    · obtain ⟨vs, a1, a2, a3⟩ := slice_cells hi (RV.sl z es own b o cap val hc hz' him hvv) h0
      refine ⟨vs, a1, by simp [Builtin.lenOf], fun k => firstCells_sl a2 (fun k v h => a3 k v h), fun v hv => ?_⟩
      obtain ⟨k, hk, rfl⟩ := List.getElem_of_mem hv
      obtain ⟨b1, b2, b3⟩ := a1
      have hk' : k < es.length * z := by omega
      have q1 : k / z < es.length := (Nat.div_lt_iff_lt_mul h0).2 hk'
      have q2 : k % z < z := Nat.mod_lt _ h0
      have q3 : (es[k / z]).length = z := b2 _ _ (List.getElem?_eq_getElem q1)
      obtain ⟨u, r1, r2⟩ := b3 (k / z) _ (k % z) _ (List.getElem?_eq_getElem q1) (List.getElem?_eq_getElem (by rw [q3]; exact q2))
      have e3 : k / z * z + k % z = k := by rw [Nat.mul_comm]; exact Nat.div_add_mod k z
      rw [e3] at r1
      have e4 : u = vs[k] := by
        have : vs.toArray[k]? = some vs[k] := by simp [hk]
        rw [this] at r1
        exact (Option.some.inj r1).symm
      rw [← e4]
      refine one_oneCell r2 ?_
      simp only [List.all_eq_true] at h1
      exact h1 _ (List.getElem_mem q1) _ (List.getElem_mem _)
    · exact ⟨[], nil rfl, by simp [Builtin.lenOf], fun k => by simp [Builtin.firstCells, loadCells, loadCellsFrom], by simp⟩

theorem extract_all (bs : ByteArray) : bs.extract 0 bs.size = bs := by
  simp

theorem src_str {l : List UInt8} {x : Value} (h : RV g (.str l) x) : ∃ vs, Src P g w 1 x (l.map fun b => [AV.int .u8 b.toNat]) vs := by
  cases h with
  | str _ bs hb =>
    have hl : l.length = bs.size := by rw [← hb]; rfl
    refine ⟨l.map fun b => .int .u8 b.toNat, ⟨by simp, fun i e he => ?_, fun i e j c he hj => ?_⟩, ?_, fun k => ?_, ?_⟩
    · simp only [List.getElem?_map, Option.map_eq_some_iff] at he
      obtain ⟨b, _, rfl⟩ := he; rfl
    · simp only [List.getElem?_map, Option.map_eq_some_iff] at he
      obtain ⟨b, hb1, rfl⟩ := he
      match j, hj with
      | 0, hj =>
        simp at hj; subst hj
        exact ⟨.int .u8 b.toNat, by simp [hb1], .int _ _⟩
      | j + 1, hj => simp at hj
    · simp [Builtin.lenOf, hl]
    · simp only [Builtin.firstCells, List.length_map, hl, extract_all, Sem.run_pure]
      congr 1
      apply Array.ext'
      simp [← hb]
    · intro v hv
      simp only [List.mem_map] at hv
      obtain ⟨b, _, rfl⟩ := hv
      rfl

/-- a slice of no elements is one of any size -/
theorem RV.nil_sz {z sz : Nat} {own own' : Own} {v : Value} (h : RV g (.sl z [] own) v) : RV g (.sl sz [] own') v := by
  cases h with
  | sln => exact .sln _ _ _
  | sl _ _ _ b o cap val hc hz hi hv => exact .sl _ _ _ b o cap val (by simp) (fun i e he => by simp at he) (fun i e j av he => by simp at he) (fun i e j av he => by simp at he)

theorem op_append {o : Oper} {c : Call} {t u e : TypeId} {x y : Operand} {a b : Opd} {inf : TypeInfo} (ho : o.op = .call c) (hc : c.callee = .builtin .append) (a1 : c.argTypes.toList = [t, u]) (a2 : c.args.toList = [x, y])
    (hu : P.underlying t = some (.slice e)) (hin : P.info? e = some inf) (hz : (zeroC P e).isSome = true) (h0 : 0 < inf.size) (hb : 0 < inf.bytes) (hb2 : inf.bytes ≤ 4096)
    (hnu : ∃ du, P.underlying u = some du ∧ ∀ k, du ≠ .int k) (hx : cOpd P t x = some a) (hy : cOpd P u y = some b)
    {callF : CallF} {dst : Option Nat} {av : AV} {s' : St} (hs : stepOp callF dst (.append inf.size a b) s = some (.val av s')) (hi : Inv B g s.heap w) (hf : FR g d s tm w L R) :
    ∃ v w', (execOp (rho tm) o).run P w = .ok (.value v) w' ∧ Good B d g w s' tm av v w' := by
  have a1 : c.argTypes = #[t, u] := by apply Array.ext'; simpa using a1
  have a2 : c.args = #[x, y] := by apply Array.ext'; simpa using a2
  obtain ⟨z, hz⟩ := Option.isSome_iff_exists.1 hz
  obtain ⟨i, zv, z1, z2, z3, z4⟩ := zeroC_ok hz
  rw [hin] at z1; cases z1
  have hz' : ∃ z, inf.zero = some z ∧ z.cells.size = inf.size := by
    obtain ⟨h5, _⟩ := mts_get (g := g) (R := R) (k := s.tk) z3
    have h5' : z.length = zv.cells.size := by simpa using h5
    exact ⟨zv, z2, by omega⟩
  have hrun : (execOp (rho tm) o) = (do let v ← Builtin.append_ #[t, u] o.type #[rho tm x, rho tm y]; pure (.value v)) := by
    simp [execOp, ho, resolve, hc, invoke, builtin, a1, a2]
  simp only [stepOp] at hs
  generalize hex : ev s a = ex at hs
  cases ex with
  | sl z es own =>
    obtain ⟨hX, hXt⟩ := opd_rv hx hf hex (by simp)
    simp only [] at hs
    split at hs
    · rename_i hcond
      obtain ⟨hzs, hroomy⟩ := hcond
      subst hzs
      have hX' : RV g (.sl inf.size es .none) (rho tm x) := hX.own
      -- whatever is appended
      have key : ∀ (es2 : List (List AV)) (hlen : (es ++ es2).length ≤ maxLen) (hsrc : ∃ vs, Src P g w inf.size (rho tm y) es2 vs),
          ∃ v w', (execOp (rho tm) o).run P w = .ok (.value v) w' ∧
            Good B d g w { s with live := s.tk :: unlive s.live own, tk := s.tk + 1 } tm (.sl inf.size (es ++ es2) (.tok s.tk)) v w' := by
        rintro es2 hlen ⟨vs, hsrc⟩
        have fin : ∀ (g1 : G) (R1 : Rm), Keep B d g w g1 w → Inv B g1 s.heap w → FR g1 d { s with live := unlive s.live own } tm w L R1 →
            (∀ b o cap, rho tm x = .slice (some ⟨b, o, none⟩) es.length cap → ∀ k, es.length * inf.size ≤ k → k < cap * inf.size → g1.K b (o + k) = .tok d s.tk) →
            ∃ v w', (execOp (rho tm) o).run P w = .ok (.value v) w' ∧
              Good B d g w { s with live := s.tk :: unlive s.live own, tk := s.tk + 1 } tm (.sl inf.size (es ++ es2) (.tok s.tk)) v w' := by
          intro g1 R1 k1 i1 f1 hroom
          have hsrc1 : Src P g1 w inf.size (rho tm y) es2 vs := ⟨hsrc.rows.mono k1.le, hsrc.len, hsrc.cells, hsrc.one⟩
          obtain ⟨v, w', g', r1, r2, r3, r4, r5⟩ := append_core (s := { s with live := unlive s.live own }) (ty := o.type) hu hin hz' h0 hb hb2 hnu (hX'.mono k1.le) hroom hsrc1 hlen i1 f1
          exact ⟨v, w', by rw [hrun]; simp [r1], g', L, _, k1.trans r2, r3, r4, ⟨r5.own, Tk_new r5 s.tk R1⟩, by intro t o e; cases e⟩
        cases own with
        | none => simp [roomy] at hroomy
        | flag => simp [roomy] at hroomy
        | exact =>
          refine fin g R (.refl B d g w) hi hf (fun b o cap e k k1 k2 => ?_)
          have := hXt _ _ _ e
          subst this
          omega
        | tok n =>
          have hn : n ∈ s.live := by simpa [roomy] using hroomy
          refine fin (g.mv (.tok d n) (.tok d s.tk)) (R.drop n) (.mv (by simp) (by simp [Outer])) (hi.mv (by simp) (by simp) (by simp) (by simp) (by simp) (by simp)) (hf.leave n _) (fun b o cap e k k1 k2 => ?_)
          refine mv_same ?_
          exact room_cells hf hn hXt e k1 k2
      generalize hey : ev s b = ey at hs
      cases ey with
      | sl z' es' own' =>
        simp only [] at hs
        split at hs
        · rename_i hc2
          cases hs
          have hY := (opd_rv hy hf hey (by simp)).1
          exact key es' hc2.1.2 (src_sl h0 hc2.1.1 hc2.2 hi hY)
        · cases hs
      | str l =>
        simp only [] at hs
        split at hs
        · rename_i hc2
          cases hs
          have hY := (opd_rv hy hf hey (by simp)).1
          refine key _ (by simpa using hc2.2) ?_
          have := src_str (P := P) (w := w) hY
          rwa [← hc2.1] at this
        · cases hs
      | _ => cases hs
    · cases hs
  | _ => cases hs

end
end Go.PM

/- Every operation that neither calls nor panics: the machine goes on as the reading does. -/
namespace Go.PM
section
variable {P : Program} {H : Hints} {B d : Nat} {g : G} {s : St} {tm : Array Value} {w : World} {L : Nat → Option Nat} {R : Rm}

def GoodS (B d : Nat) (g : G) (w : World) (s' : St) (tm : Array Value) (w' : World) : Prop :=
  ∃ g' L' R', Keep B d g w g' w' ∧ Inv B g' s'.heap w' ∧ FR g' d s' tm w' L' R'

def Snd (P : Program) (B d : Nat) (g : G) (tm : Array Value) (w : World) (o : Oper) : Option ORes → Prop
  | some (.val av s') => ∃ v w', (execOp (rho tm) o).run P w = .ok (.value v) w' ∧ Good B d g w s' tm av v w'
  | some (.skp s') => ∃ w', (execOp (rho tm) o).run P w = .ok .skip w' ∧ GoodS B d g w s' tm w'
  | some (.pan _ _) => False
  | none => True

/-- calls, and what ends a call -/
def isCall : SOp → Bool
  | .call .. | .rcall .. | .dfr .. | .panic .. | .recover => true
  | _ => false

theorem Snd.plain {o : Oper} {x : Option AV} (hp : ∀ av, x = some av → Plain P B d g s tm w o av) : Snd P B d g tm w o (x.map fun a => .val a s) := by
  cases x with
  | none => trivial
  | some av => obtain ⟨v, h1, h2⟩ := hp av rfl; exact ⟨v, w, h1, h2⟩

theorem Snd.same {o : Oper} {av : AV} (hp : Plain P B d g s tm w o av) : Snd P B d g tm w o (some (.val av s)) := by
  obtain ⟨v, h1, h2⟩ := hp; exact ⟨v, w, h1, h2⟩

/-- every operation that keeps the world and the state -/
theorem Snd.stay {o : Oper} {r : Option ORes} (h1 : ∀ av s', r = some (.val av s') → ∃ v, (execOp (rho tm) o).run P w = .ok (.value v) w ∧ Good B d g w s' tm av v w)
    (h2 : ∀ s', r ≠ some (.skp s')) (h3 : ∀ p s', r ≠ some (.pan p s')) : Snd P B d g tm w o r := by
  cases r with
  | none => trivial
  | some r =>
    cases r with
    | val av s' => obtain ⟨v, a, b⟩ := h1 av s' rfl; exact ⟨v, w, a, b⟩
    | skp s' => exact absurd rfl (h2 s')
    | pan p s' => exact absurd rfl (h3 p s')

variable {callF : CallF} {o : Oper} {so : SOp}

theorem snd_builtin {c : Call} {b : Builtin} (ho : o.op = .call c) (hb : c.callee = .builtin b) (hc : cBuiltin P b c.argTypes c.args = some so) (hk : isCall so = false)
    (hi : Inv B g s.heap w) (hf : FR g d s tm w L R) : Snd P B d g tm w o (stepOp callF o.dst so s) := by
  unfold cBuiltin at hc
  split at hc
  · -- len
    rename_i t x a1 a2
    split at hc
    · rename_i a hu hx
      cases hc
      simp only [stepOp]
      cases he : ev s a <;> first | trivial | skip
      exact .same (op_len_str ho hb a1 a2 hu hx he hi hf)
    · rename_i e a hu hx
      cases hc
      simp only [stepOp]
      cases he : ev s a <;> first | trivial | skip
      · exact .same (op_len_sl ho hb a1 a2 hu hx he hi hf)
      · rename_i id off n
        have := (opd_rv hx hf he (by simp)).1
        cases this
    · cases hc
  · -- append
    rename_i t u x y a1 a2
    split at hc
    · rename_i e a b hu hx hy
      split at hc
      · rename_i i e' hin hu2
        split at hc
        · rename_i hcond
          cases hc
          obtain ⟨⟨q1, q2, q3, q4⟩, q5⟩ := hcond
          cases hr : stepOp callF o.dst (.append i.size a b) s with
          | none => trivial
          | some r =>
            cases r with
            | val av s' => exact op_append ho hb a1 a2 hu hin q5 q2 q3 q4 ⟨_, hu2, by simp⟩ hx hy hr hi hf
            | skp s' => simp only [stepOp] at hr; (repeat' split at hr) <;> simp at hr
            | pan p s' => simp only [stepOp] at hr; (repeat' split at hr) <;> simp at hr
        · cases hc
      · rename_i i hin hu2
        split at hc
        · rename_i hcond
          cases hc
          obtain ⟨⟨q1, q2, q3⟩, q5⟩ := hcond
          cases hr : stepOp callF o.dst (.append 1 a b) s with
          | none => trivial
          | some r =>
            cases r with
            | val av s' =>
              rw [← q1] at hr
              exact op_append ho hb a1 a2 hu hin q5 (by omega) (by omega) (by omega) ⟨_, hu2, by simp⟩ hx hy hr hi hf
            | skp s' => simp only [stepOp] at hr; (repeat' split at hr) <;> simp at hr
            | pan p s' => simp only [stepOp] at hr; (repeat' split at hr) <;> simp at hr
        · cases hc
      · cases hc
    · cases hc
  · -- max
    rename_i t u x y a1 a2
    split at hc
    · rename_i a b hx hy
      cases hc
      exact .plain fun av h => op_mnmx (m := true) ho hb a2 hx hy (by simpa using h) hi hf
    · cases hc
  · -- min
    rename_i t u x y a1 a2
    split at hc
    · rename_i a b hx hy
      cases hc
      exact .plain fun av h => op_mnmx (m := false) ho hb a2 hx hy (by simpa using h) hi hf
    · cases hc
  · cases hc; simp [isCall] at hk
  · cases hc

theorem snd_load {t : TypeId} {x : Operand} (ho : o.op = .load t x) (hc : cOp P H o = some so) (hi : Inv B g s.heap w) (hf : FR g d s tm w L R) : Snd P B d g tm w o (stepOp callF o.dst so s) := by
  unfold cOp at hc
  rw [ho] at hc
  dsimp only at hc
  split at hc
  · rename_i ag i a dd h1 h2 h3 h4
    split at hc
    · rename_i hcond
      cases hc
      simp only [stepOp]
      cases htk : (H.take.contains dd && !ag) with
      | false =>
        simp only []
        exact .plain fun av h => op_load ho h1 h2 hcond h3 h hi hf
      | true =>
        simp only []
        refine .stay (fun av s' h => ?_) (fun s' h => ?_) (fun p s' h => ?_)
        · rw [Option.map_eq_some_iff] at h
          obtain ⟨⟨a1, a2⟩, h, e⟩ := h
          cases e
          have hag : ag = false := by
            cases ag with
            | false => rfl
            | true => simp at htk
          subst hag
          exact op_take ho h1 h2 (hcond rfl) h3 h hi hf
        · rw [Option.map_eq_some_iff] at h
          obtain ⟨_, _, e⟩ := h; cases e
        · rw [Option.map_eq_some_iff] at h
          obtain ⟨_, _, e⟩ := h; cases e
    · cases hc
  · cases hc

theorem snd_store {t : TypeId} {x y : Operand} (ho : o.op = .store t x y) (hc : cOp P H o = some so) (hi : Inv B g s.heap w) (hf : FR g d s tm w L R) : Snd P B d g tm w o (stepOp callF o.dst so s) := by
  unfold cOp at hc
  rw [ho] at hc
  dsimp only at hc
  split at hc
  · rename_i i a c h1 h2 h3
    split at hc
    · rename_i h0
      cases hc
      simp only [stepOp]
      split
      · rename_i hcond
        obtain ⟨hl, h1'⟩ := hcond
        cases hst : storeAt s (ev s a) (ev s c).cells with
        | none => trivial
        | some s' =>
          simp only [Option.map_some, Snd]
          cases he : ev s a <;> rw [he] at hst <;> simp only [storeAt, reduceCtorEq] at hst
          · rename_i id el off
            split at hst
            · rename_i sz els hob
              split at hst
              · rename_i cs hcs
                rw [Option.map_eq_some_iff] at hst
                obtain ⟨cs', hset, rfl⟩ := hst
                obtain ⟨w', g', R', r1, r2, r3, r4⟩ := op_store_ptr ho h1 h0 h2 h3 hl h1' he hob hcs hset hi hf
                exact ⟨w', r1, g', L, R', r2, r3, r4⟩
              · cases hst
            · cases hst
          · rename_i t' off
            split at hst
            · rename_i cs hcs
              rw [Option.map_eq_some_iff] at hst
              obtain ⟨cs', hset, rfl⟩ := hst
              obtain ⟨w', L', r1, r2, r3, r4⟩ := op_store_loc ho h1 h0 h2 h3 hl h1' he hcs hset hi hf
              exact ⟨w', r1, g, L', R, r2, r3, r4⟩
            · cases hst
      · trivial
    · cases hc
  · cases hc

theorem snd_alloc {e : TypeId} (ho : o.op = .alloc e) (hc : cOp P H o = some so) (hi : Inv B g s.heap w) (hf : FR g d s tm w L R) : Snd P B d g tm w o (stepOp callF o.dst so s) := by
  unfold cOp at hc
  rw [ho] at hc
  dsimp only at hc
  split at hc
  · rename_i z dd hz hd
    split at hc
    · rename_i h0
      rw [hd]
      split at hc
      · cases hc
        simp only [stepOp]
        split
        · rename_i hl
          exact op_allocL ho hz hl hi hf
        · trivial
      · cases hc
        simp only [stepOp]
        exact op_allocH ho hz h0 hi hf
    · cases hc
  · cases hc

theorem snd_box {e : TypeId} {x : Operand} (ho : o.op = .box e x) (hc : cOp P H o = some so) (hi : Inv B g s.heap w) (hf : FR g d s tm w L R) : Snd P B d g tm w o (stepOp callF o.dst so s) := by
  unfold cOp at hc
  rw [ho] at hc
  dsimp only at hc
  split at hc
  · rename_i a dd hx hd
    split at hc
    · rename_i h0
      rw [hd]
      split at hc
      · cases hc
        simp only [stepOp]
        split
        · rename_i hl
          split
          · rename_i hsz
            exact op_boxL ho hx (by omega) hl hi hf
          · trivial
        · trivial
      · cases hc
        simp only [stepOp]
        split
        · rename_i hsz
          rw [← hsz]
          exact op_boxH ho hx (by omega) hi hf
        · trivial
    · cases hc
  · cases hc

theorem snd_slice {t : TypeId} {x : Operand} {lo hi_ mx : Option Operand} (ho : o.op = .slice t x lo hi_ mx) (hc : cOp P H o = some so) (hi : Inv B g s.heap w) (hf : FR g d s tm w L R) : Snd P B d g tm w o (stepOp callF o.dst so s) := by
  unfold cOp at hc
  rw [ho] at hc
  dsimp only at hc
  split at hc
  · rename_i a l' h' m' hu hx hl hh hm
    cases hc
    simp only [stepOp]
    refine .plain fun av hs => ?_
    split at hs
    · rename_i hk
      cases he : ev s a <;> rw [he] at hs hk <;> first | (simp [slKind] at hk; done) | skip
      exact op_slice_str ho hu hx hl hh hm he hs hi hf
    · cases hs
  · rename_i e a l' h' m' hu hx hl hh hm
    split at hc
    · rename_i i hin
      split at hc
      · rename_i h0
        cases hc
        simp only [stepOp]
        refine .plain fun av hs => ?_
        split at hs
        · rename_i hk
          cases he : ev s a <;> rw [he] at hs hk <;> first | (simp [slKind] at hk; done) | skip
          · simp only [slKind, beq_iff_eq] at hk; omega
          · exact op_slice_sl ho hu hin hx hl hh hm he hs hi hf
        · cases hs
      · cases hc
    · cases hc
  · cases hc

theorem op_sound (hc : cOp P H o = some so) (hk : isCall so = false) (hi : Inv B g s.heap w) (hf : FR g d s tm w L R) : Snd P B d g tm w o (stepOp callF o.dst so s) := by
  have hc0 := hc
  cases ho : o.op <;> unfold cOp at hc <;> rw [ho] at hc <;> dsimp only at hc
  case move x =>
    rw [Option.map_eq_some_iff] at hc
    obtain ⟨a, hx, rfl⟩ := hc
    obtain ⟨r1, r2⟩ := op_mv (.inl ho) hx hi hf
    exact ⟨_, w, r1, r2⟩
  case assign x =>
    rw [Option.map_eq_some_iff] at hc
    obtain ⟨a, hx, rfl⟩ := hc
    obtain ⟨r1, r2⟩ := op_mv (.inr ho) hx hi hf
    exact ⟨_, w, r1, r2⟩
  case pick c a b =>
    split at hc
    · rename_i c' a' b' h1 h2 h3
      cases hc
      simp only [stepOp]
      split
      · rename_i t ht
        obtain ⟨v, r1, r2⟩ := op_pick ho h1 h2 h3 ht hi hf
        exact ⟨v, w, r1, r2⟩
      · trivial
    · cases hc
  case alloc e => exact snd_alloc ho hc0 hi hf
  case box e x => exact snd_box ho hc0 hi hf
  case build t ps =>
    split at hc
    · rename_i fs z hu hz
      split at hc
      · rename_i hkn
        rw [Option.map_eq_some_iff] at hc
        obtain ⟨q, hq, rfl⟩ := hc
        simp only [stepOp]
        cases hfl : fillA z (q.map fun p => (p.1, p.2.1, ev s p.2.2)) with
        | none => trivial
        | some cs => exact .same (op_build ho hu hkn hz hq hfl hi hf)
      · cases hc
    · cases hc
  case buildSlice t len ps =>
    split at hc
    · rename_i e hu
      split at hc
      · rename_i i z q hin hz hq
        split at hc
        · rename_i hcond
          cases hc
          simp only [stepOp]
          cases hfl : fillE i.size (List.replicate len z) (q.map fun p => (p.1, ev s p.2)) with
          | none => trivial
          | some es => exact op_bslice ho hu hin hz hq hcond.1 hcond.2 hfl hi hf
        · cases hc
      · cases hc
    · cases hc
  case load t x => exact snd_load ho hc0 hi hf
  case store t x y => exact snd_store ho hc0 hi hf
  case nilCheck x =>
    rw [Option.map_eq_some_iff] at hc
    obtain ⟨a, hx, rfl⟩ := hc
    refine .stay (fun av s' h => op_nilchk ho hx h hi hf) (fun s' h => ?_) (fun p s' h => ?_)
    · simp only [stepOp] at h; (repeat' split at h) <;> simp at h
    · simp only [stepOp] at h; (repeat' split at h) <;> simp at h
  case binOp op t x y u =>
    split at hc
    · rename_i a b hx hy
      split at hc
      · rename_i hb
        split at hc
        · rename_i hop
          rw [Option.map_eq_some_iff] at hc
          obtain ⟨e, he, rfl⟩ := hc
          simp only [stepOp]
          exact .plain fun av h => op_bin ho hx hy hb (fun _ => he) h hi hf
        · rename_i hop
          cases hc
          simp only [stepOp]
          exact .plain fun av h => op_bin ho hx hy hb (fun h => absurd h hop) h hi hf
      · cases hc
    · cases hc
  case unOp op t x =>
    split at hc
    · cases hc; simp only [stepOp]
      exact .plain fun av h => op_un ho ‹_› h hi hf
    · cases hc; simp only [stepOp]
      exact .plain fun av h => op_un ho ‹_› h hi hf
    · cases hc
  case convert sr ds x =>
    split at hc
    · cases hc; simp only [stepOp]
      exact .plain fun av h => op_conv ho ‹_› ‹_› h hi hf
    · cases hc
  case makeInterface t x =>
    split at hc
    · rename_i a hcn hx
      cases hc; simp only [stepOp]
      by_cases hn : ∃ u p, ev s a = .lref u p
      · obtain ⟨u, p, he⟩ := hn
        rw [he]
        refine .same (.mk hi hf (.iface t (rho tm x)) (by simp [execOp, ho, run_makeInterface w t _ hcn]) (.iface _ _ _ (.undef _)) trivial)
      · exact .same (op_mkif ho hx hcn (fun u p e => hn ⟨u, p, e⟩) hi hf)
    · cases hc
  case makeFunc f first caps =>
    split at hc
    · cases hc; simp only [stepOp]
      exact .same (op_mkfn ho ‹_› ‹_› hi hf)
    · cases hc
  case slice t x lo hi_ mx => exact snd_slice ho hc0 hi hf
  case fieldAddr st x f =>
    split at hc
    · rename_i fd a hfd hx
      split at hc
      · rename_i i hin
        split at hc
        · rename_i h0
          cases hc
          refine .stay (fun av s' h => ?_) (fun s' h => ?_) (fun p s' h => ?_)
          · obtain ⟨rfl, hp⟩ := op_faddr ho hfd hin h0 hx h hi hf
            exact hp
          · simp only [stepOp] at h; (repeat' split at h) <;> simp at h
          · simp only [stepOp] at h; (repeat' split at h) <;> simp at h
        · cases hc
      · cases hc
    · cases hc
  case field st x f =>
    split at hc
    · rename_i fd a hfd hx
      split at hc
      · rename_i ag i hag hin
        split at hc
        · rename_i h1
          cases hc
          simp only [stepOp]
          split
          · rename_i cs he
            exact .plain fun av h => op_field ho hfd hin hag h1 hx he h hi hf
          · trivial
        · cases hc
      · cases hc
    · cases hc
  case indexAddr t x i =>
    split at hc
    · rename_i e a b hu hx hy
      split at hc
      · rename_i inf hin
        split at hc
        · rename_i h0
          cases hc
          simp only [stepOp]
          split
          · rename_i sz es own k h1 h2
            split
            · rename_i cs h3
              split
              · rename_i hsz
                subst hsz
                exact .same (op_iaddr ho hu hin hx hy h1 h2 h3 hi hf)
              · trivial
            · trivial
          · trivial
        · cases hc
      · cases hc
    · cases hc
  case index t x i =>
    split at hc
    · rename_i a b hu hx hy
      cases hc
      simp only [stepOp]
      split
      · rename_i l k h1 h2
        split
        · rename_i c h3
          exact .same (op_index ho hu hx hy h1 h2 h3 hi hf)
        · trivial
      · trivial
    · cases hc
  case typeAssert x xt t ok =>
    split at hc
    · rename_i ag a hcn hag hx
      rw [Option.map_eq_some_iff] at hc
      obtain ⟨z, hz, rfl⟩ := hc
      refine .stay (fun av s' h => ?_) (fun s' h => ?_) (fun p s' h => ?_)
      · obtain ⟨rfl, hp⟩ := op_tassert ho hcn hz hx h hi hf
        exact hp
      · simp only [stepOp] at h; (repeat' split at h) <;> simp at h
      · simp only [stepOp] at h; (repeat' split at h) <;> simp at h
    · cases hc
  case extract x i =>
    rw [Option.map_eq_some_iff] at hc
    obtain ⟨a, hx, rfl⟩ := hc
    simp only [stepOp]
    split
    · rename_i vs he
      exact .plain fun av h => op_extract ho hx he h hi hf
    · trivial
  case call c =>
    split at hc
    · rename_i b hb
      exact snd_builtin ho hb hc hk hi hf
    · split at hc
      · by_cases hrc : rcHint H o.dst = true
        · rw [if_pos hrc] at hc; cases hc; simp [isCall] at hk
        · rw [if_neg hrc] at hc; cases hc; simp [isCall] at hk
      · cases hc
    · cases hc
  case defer c =>
    split at hc
    · split at hc
      · cases hc; simp [isCall] at hk
      · cases hc
    · cases hc
  case panic x =>
    rw [Option.map_eq_some_iff] at hc
    obtain ⟨a, _, rfl⟩ := hc
    simp [isCall] at hk
  all_goals cases hc

end
end Go.PM

/- Calls: arguments over, results back, rooms with them. -/
namespace Go.PM
section
variable {P : Program} {H : Hints} {B d : Nat} {g : G} {s : St} {tm : Array Value} {w : World} {L : Nat → Option Nat} {R : Rm}

/-- a room that goes over a call -/
def RetRoom (g : G) (d i : Nat) : AV → Value → Prop
  | .sl sz es .flag, v => ∀ b o len cap, v = .slice (some ⟨b, o, none⟩) len cap → ∀ k, es.length * sz ≤ k → k < cap * sz → g.K b (o + k) = .ret d i
  | _, _ => True

theorem RetRoom.nrm {i : Nat} (a : AV) (v : Value) : RetRoom g d i a.nrm v := by
  cases a <;> exact trivial

def ArgsOk (g : G) (d : Nat) (args : List AV) (argv : Array Value) : Prop :=
  args.length = argv.size ∧ ∀ (i : Nat) a v, args[i]? = some a → argv[i]? = some v → RV g a v ∧ RetRoom g d i a v

def ResOk (g : G) (d : Nat) (a : AV) (x : Value) : Prop :=
  RV g a x ∧ match a with
    | .tup vs => ∀ (i : Nat) b y, vs[i]? = some b → (tupArr x)[i]? = some y → RetRoom g d i b y
    | a => RetRoom g d 0 a x

def EndOk (g : G) (d : Nat) : Out → Ending → Prop
  | .ret a, .returned x => ResOk g d a x
  | .pan p, .panicked chain => ∃ x, chain = [{ v := x, recovered := false }] ∧ RV g p x
  | _, _ => False

/-- what is called: a function of the program, or one that runs here and now -/
def CallTo (P : Program) (f : FuncId) (argv : Array Value) (w : World) (E : Ending → World → Prop) : Prop :=
  (∃ h argv', (callFunc f argv).run P w = .ok (.enter h argv') w ∧ Calls P h argv' w E) ∨
  (∃ v w', (callFunc f argv).run P w = .ok (.value v) w' ∧ E (.returned v) w')

def CallOk (P : Program) (B d : Nat) (callF : CallF) : Prop :=
  ∀ f args heap out heap', callF f args heap = some (out, heap') → ∀ g w argv, Inv B g heap w → ArgsOk g d args argv →
    CallTo P f argv w fun e w' => ∃ g', Keep B d g w g' w' ∧ Inv B g' heap' w' ∧ EndOk g' d out e

/-! ### arguments -/

theorem pass_ok (fl : List Nat) : ∀ (l : List AV) (vs : List Value) (i : Nat) (g : G) (R : Rm) (s s1 : St) (as_ : List AV) (off : Nat), passA fl i s l = some (as_, s1) → l.length = vs.length →
    (∀ (j : Nat) a v, l[j]? = some a → vs[j]? = some v → RF g L R s.tk a v) → Inv B g s.heap w → FR g d s tm w L R →
    ∃ g' R', Keep B d g w g' w ∧ Inv B g' s.heap w ∧ FR g' d s1 tm w L R' ∧ s1 = { s with live := s1.live } ∧ as_.length = l.length ∧
      (∀ b o e j, g.K b o = .ret e j → g'.K b o = .ret e j) ∧
      ∀ (j : Nat) a v, as_[j]? = some a → vs[j]? = some v → RV g' a v ∧ RetRoom g' (d + 1) (off + i + j) a v := by
  intro l
  induction l with
  | nil =>
    intro vs i g R s s1 as_ off h hl hr hi hf
    simp only [passA, Option.some.injEq, Prod.mk.injEq] at h
    obtain ⟨rfl, rfl⟩ := h
    exact ⟨g, R, .refl B d g w, hi, hf, rfl, rfl, fun _ _ _ _ h => h, fun j a v h => by simp at h⟩
  | cons a l ih =>
    intro vs i g R s s1 as_ off h hl hr hi hf
    cases vs with
    | nil => simp at hl
    | cons v vs =>
      have h0 := hr 0 a v rfl rfl
      have hr' : ∀ (j : Nat) a v, l[j]? = some a → vs[j]? = some v → RF g L R s.tk a v := fun j a' v' p q => hr (j + 1) a' v' (by simpa using p) (by simpa using q)
      simp only [passA] at h
      split at h
      · split at h
        · rename_i sz es o
          split at h
          · rename_i hroom
            rw [Option.map_eq_some_iff] at h
            obtain ⟨⟨q, s2⟩, h, e⟩ := h
            cases e
            obtain ⟨h01, h02⟩ := h0
            -- the room goes over
            have go : ∀ (g1 : G) (R1 : Rm), Keep B d g w g1 w → Inv B g1 s.heap w → FR g1 d { s with live := unlive s.live o } tm w L R1 →
                (∀ a v, RF g L R s.tk a v → RF g1 L R1 s.tk a v) → (∀ b o e j, g.K b o = .ret e j → g1.K b o = .ret e j) →
                RetRoom g1 (d + 1) (off + i) (.sl sz es .flag) v →
                ∃ g' R', Keep B d g w g' w ∧ Inv B g' s.heap w ∧ FR g' d s2 tm w L R' ∧ s2 = { s with live := s2.live } ∧ (AV.sl sz es Own.flag :: q).length = (AV.sl sz es o :: l).length ∧
                  (∀ b o e j, g.K b o = .ret e j → g'.K b o = .ret e j) ∧
                  ∀ (j : Nat) a v', (AV.sl sz es Own.flag :: q)[j]? = some a → (v :: vs)[j]? = some v' → RV g' a v' ∧ RetRoom g' (d + 1) (off + i + j) a v' := by
              intro g1 R1 k1 i1 f1 hR1 hret hroom1
              obtain ⟨g', R', c1, c2, c3, c4, c5, c6, c7⟩ := ih vs (i + 1) g1 R1 _ _ _ off h (by simpa using hl) (fun j a v p q => hR1 a v (hr' j a v p q)) i1 f1
              refine ⟨g', R', k1.trans c1, c2, c3, by rw [c4], by simp [c5], fun b o e j hh => c6 b o e j (hret b o e j hh), fun j a' v' p q => ?_⟩
              cases j with
              | zero =>
                simp at p q
                subst p; subst q
                refine ⟨(h01.mono (k1.trans c1).le).own, fun b o len cap e k p1 p2 => ?_⟩
                exact c6 _ _ _ _ (hroom1 b o len cap e k p1 p2)
              | succ j =>
                simp at p q
                have := c7 j a' v' p q
                rwa [show off + (i + 1) + j = off + i + (j + 1) by omega] at this
            cases o with
            | none => simp [roomy] at hroom
            | flag => simp [roomy] at hroom
            | exact =>
              refine go g R (.refl B d g w) hi hf (fun a v h => h) (fun _ _ _ _ h => h) (fun b o len cap e k p1 p2 => ?_)
              have hh := h02 _ _ _ e
              subst hh
              cases h01 with
              | sln => cases e; omega
              | sl => omega
            | tok n =>
              have hn : n ∈ s.live := by simpa [roomy] using hroom
              refine go (g.mv (.tok d n) (.ret (d + 1) (off + i))) (R.drop n) (.mv (by simp) (by simp [Outer])) (hi.mv (by simp) (by simp) (by simp) (by simp) (by simp) (by simp)) (hf.leave n _) (fun a v h => ?_) (fun b o e j h => ?_) (fun b o len cap e k p1 p2 => ?_)
              · refine (h.mono (mv_le (by simp))).sub (fun m r hm => .inl ?_) (Nat.le_refl _)
                simp only [Rm.drop] at hm
                split at hm
                · cases hm
                · exact hm
              · rw [mv_other (by rw [h]; simp)]; exact h
              · exact mv_same (room_cells hf hn h02 e p1 p2)
          · cases h
        · cases h
      · rw [Option.map_eq_some_iff] at h
        obtain ⟨⟨q, s2⟩, h, e⟩ := h
        cases e
        obtain ⟨g', R', c1, c2, c3, c4, c5, c6, c7⟩ := ih vs (i + 1) g R _ _ _ off h (by simpa using hl) hr' hi hf
        refine ⟨g', R', c1, c2, c3, c4, by simp [c5], c6, fun j a' v' p q => ?_⟩
        cases j with
        | zero =>
          simp at p q
          subst p; subst q
          exact ⟨(RF.nrm h0).mono c1.le, .nrm _ _⟩
        | succ j =>
          simp at p q
          have := c7 j a' v' p q
          rwa [show off + (i + 1) + j = off + i + (j + 1) by omega] at this

/-! ### results -/

theorem Inv.heap_eq {hp hp' : List HObj} (h : Inv B g hp w) (e : hp = hp') : Inv B g hp' w := e ▸ h

/-- one result -/
theorem adopt1_ok {a : AV} {v : Value} {i : Nat} (ha : RV g a v) (hr : RetRoom g (d + 1) i a v)
    (hi : Inv B g s.heap w) (hf : FR g d s tm w L R) :
    ∃ g' R', Keep B d g w g' w ∧ Inv B g' (adopt1 s a).2.heap w ∧ FR g' d (adopt1 s a).2 tm w L R' ∧ RV g' (adopt1 s a).1 v ∧ Tk1 R' (adopt1 s a).2.tk (adopt1 s a).1 v ∧
      (∀ b y, Tk1 R s.tk b y → Tk1 R' (adopt1 s a).2.tk b y) ∧ (∀ b o j, j ≠ i → g.K b o = .ret (d + 1) j → g'.K b o = .ret (d + 1) j) ∧ (adopt1 s a).2.loc = s.loc := by
  by_cases hfl : ∃ sz es, a = .sl sz es .flag
  · obtain ⟨sz, es, rfl⟩ := hfl
    simp only [adopt1]
    have hx : ∀ u, Kd.ret (d + 1) i ≠ .imm u := by simp
    let g1 := g.mv (.ret (d + 1) i) (.tok d s.tk)
    have hle : g.le g1 := mv_le hx
    have f1 : FR g1 d s tm w L R := by
      refine ⟨hf.sz, hf.ls, fun t av v h1 h2 => (hf.tm t av v h1 h2).mono hle, fun t cs h1 => ?_, fun n b x e h1 o h2 h3 => ?_, hf.rk, hf.lv, hf.lk, hf.st⟩
      · obtain ⟨b, hb, hh⟩ := hf.lc t cs h1
        refine ⟨b, hb, fun j av hj => ?_⟩
        obtain ⟨e1, v, e2, e3, e4⟩ := hh j av hj
        exact ⟨by rw [mv_other (by rw [e1]; simp)]; exact e1, v, e2, e3.mono hle, e4⟩
      · have := hf.rg n b x e h1 o h2 h3
        rw [mv_other (by rw [this]; simp)]; exact this
    have f2 := f1.gain (spareOf sz es.length v) (fun o h2 h3 => by
      cases ha with
      | sln _ _ a => cases a <;> simp [spareOf] at h2 h3 <;> omega
      | sl _ _ _ b oo cap val hc hz him hvv =>
        simp only [spareOf] at h2 h3 ⊢
        refine mv_same ?_
        have := hr b oo es.length cap rfl (o - oo) (by omega) (by omega)
        rw [show oo + (o - oo) = o by omega] at this
        exact this)
    have hsub : ∀ m q, (fun m => if m = s.tk then some (spareOf sz es.length v) else R m) m = some q → R m = some q ∨ s.tk ≤ m := by
      intro m q hq
      by_cases e : m = s.tk
      · exact .inr (by omega)
      · simp only [e, if_false] at hq; exact .inl hq
    refine ⟨g1, _, .mv hx (by simp [Outer]), hi.mv (by simp) (by simp) (by simp) (by simp) (by simp) (by simp), f2, (ha.mono hle).own, Tk_new (ha.mono hle) s.tk R, fun b y h => h.sub hsub (Nat.le_succ _), fun b o j hj h => ?_, trivial⟩
    rw [mv_other (by rw [h]; simp [hj])]; exact h
  · have e1 : adopt1 s a = (a.nrm1, s) := by
      unfold adopt1
      split
      · exact absurd ⟨_, _, rfl⟩ hfl
      · rfl
    rw [e1]
    exact ⟨g, R, .refl B d g w, hi, hf, ha.nrm1, Tk1_nrm1 _ _, fun b y h => h, fun _ _ _ _ h => h, rfl⟩

theorem adopt1_heap (s : St) (a : AV) : (adopt1 s a).2.heap = s.heap ∧ (adopt1 s a).2.defers = s.defers := by
  unfold adopt1; split <;> exact ⟨rfl, rfl⟩

theorem adopts_heap : ∀ (l : List AV) (s : St), (adopts s l).2.heap = s.heap ∧ (adopts s l).2.defers = s.defers ∧ (adopts s l).2.pan = s.pan ∧ (adopts s l).2.recd = s.recd
  | [], s => ⟨rfl, rfl, rfl, rfl⟩
  | a :: l, s => by
    simp only [adopts]
    obtain ⟨h1, h2, h3, h4⟩ := adopts_heap l (adopt1 s a).2
    rw [h1, h2, h3, h4]
    unfold adopt1; split <;> exact ⟨rfl, rfl, rfl, rfl⟩

theorem adopts_ok : ∀ (l : List AV) (vs : List Value) (i : Nat) (g : G) (R : Rm) (s : St), l.length = vs.length →
    (∀ (j : Nat) a v, l[j]? = some a → vs[j]? = some v → RV g a v ∧ RetRoom g (d + 1) (i + j) a v) → Inv B g s.heap w → FR g d s tm w L R →
    ∃ g' R', Keep B d g w g' w ∧ Inv B g' s.heap w ∧ FR g' d (adopts s l).2 tm w L R' ∧ (adopts s l).1.length = l.length ∧
      (∀ b y, Tk1 R s.tk b y → Tk1 R' (adopts s l).2.tk b y) ∧
      ∀ (j : Nat) a v, (adopts s l).1[j]? = some a → vs[j]? = some v → RV g' a v ∧ Tk1 R' (adopts s l).2.tk a v := by
  intro l
  induction l with
  | nil => intro vs i g R s hl h hi hf; exact ⟨g, R, .refl B d g w, hi, hf, rfl, fun b y h => h, fun j a v h => by simp [adopts] at h⟩
  | cons a l ih =>
    intro vs i g R s hl h hi hf
    cases vs with
    | nil => simp at hl
    | cons v vs =>
      obtain ⟨h01, h02⟩ := h 0 a v rfl rfl
      obtain ⟨g1, R1, k1, i1, f1, r1, t1, u1, p1, _⟩ := adopt1_ok (i := i) h01 (by simpa using h02) hi hf
      obtain ⟨g2, R2, k2, i2, f2, l2, u2, q2⟩ := ih vs (i + 1) g1 R1 (adopt1 s a).2 (by simpa using hl) (fun j a' v' e1 e2 => by
        obtain ⟨x1, x2⟩ := h (j + 1) a' v' (by simpa using e1) (by simpa using e2)
        refine ⟨x1.mono k1.le, ?_⟩
        rw [show i + 1 + j = i + (j + 1) by omega]
        cases a' <;> first | exact trivial | skip
        rename_i sz es own
        cases own <;> first | exact trivial | skip
        exact fun b o len cap e k y1 y2 => p1 _ _ _ (by omega) (x2 b o len cap e k y1 y2)) i1 f1
      refine ⟨g2, R2, k1.trans k2, i2.heap_eq (adopt1_heap s a).1, f2, by simp [adopts, l2], fun b y hh => u2 b y (u1 b y hh), fun j a' v' e1 e2 => ?_⟩
      cases j with
      | zero =>
        simp [adopts] at e1 e2
        subst e1; subst e2
        exact ⟨r1.mono k2.le, u2 _ _ t1⟩
      | succ j =>
        simp [adopts] at e1 e2
        exact q2 j a' v' e1 e2

theorem adopt_ok {a : AV} {v : Value} (h : ResOk g (d + 1) a v) (hi : Inv B g s.heap w) (hf : FR g d s tm w L R) :
    ∃ g' R', Keep B d g w g' w ∧ Inv B g' (adopt s a).2.heap w ∧ FR g' d (adopt s a).2 tm w L R' ∧ RF g' L R' (adopt s a).2.tk (adopt s a).1 v ∧ lrefOk (adopt s a).2 (adopt s a).1 := by
  by_cases ht : ∃ vs, a = .tup vs
  · obtain ⟨vs, rfl⟩ := ht
    obtain ⟨h1, h2⟩ := h
    cases h1 with
    | tup _ xs hl hh =>
      obtain ⟨g', R', k, i, f, l, u, q⟩ := adopts_ok (B := B) vs xs.toList 0 g R s (by simpa using hl) (fun j a v e1 e2 => by
        have e2' : xs[j]? = some v := by simpa using e2
        exact ⟨hh j a v e1 e2', by simpa [Nat.zero_add] using h2 j a v e1 (by simpa [tupArr] using e2')⟩) hi hf
      simp only [adopt]
      refine ⟨g', R', k, by rw [(adopts_heap vs s).1]; exact i, f, ⟨.tup _ _ (by rw [l]; exact hl) (fun j c x e1 e2 => (q j c x e1 (by simpa using e2)).1), fun j c x e1 e2 => (q j c x e1 (by simpa [tupArr] using e2)).2⟩, by intro t o e; cases e⟩
  · have e1 : adopt s a = adopt1 s a := by
      unfold adopt
      split
      · exact absurd ⟨_, rfl⟩ ht
      · rfl
    rw [e1]
    have h2 : RetRoom g (d + 1) 0 a v := by
      have := h.2
      split at this
      · exact absurd ⟨_, rfl⟩ ht
      · exact this
    obtain ⟨g', R', k, i, f, r, t, _, _, _⟩ := adopt1_ok h.1 h2 hi hf
    have hnl : ∀ t o, (adopt1 s a).1 ≠ .lref t o := by
      intro t o e
      rw [e] at r
      cases r
    have hnt : ∀ l, (adopt1 s a).1 ≠ .tup l := by
      intro l
      unfold adopt1
      split
      · simp
      · cases a <;> simp [AV.nrm1, AV.nrm0] <;> exact absurd ⟨_, rfl⟩ ht
    refine ⟨g', R', k, i, f, RF_of r ?_, fun t o e => absurd e (hnl t o)⟩
    generalize (adopt1 s a).1 = q at *
    cases q <;> first | exact t | exact absurd rfl (hnt _)

end
end Go.PM

/- One operation of whatever kind: what stands behind it in the machine. -/
namespace Go.PM
section
variable {P : Program} {H : Hints} {B d : Nat} {g : G} {s : St} {w : World} {L : Nat → Option Nat} {R : Rm} {a : Act}

theorem rho_eval (a : Act) : rho a.tmps = a.eval := by
  funext x
  cases x <;> simp [rho, Act.eval]

/-- deferred calls -/
def DF (g : G) : List (AV × List AV) → List Deferred → Prop
  | [], [] => True
  | p :: r, q :: ds => (∃ fn first caps fv cv av, p.1 = .fn fn first caps ∧ RV g p.1 (.func fn fv cv) ∧ q.target = .fn fn cv ∧ q.args = fv ++ av ∧ p.2.length = av.size ∧
      ∀ (i : Nat) x v, p.2[i]? = some x → av[i]? = some v → RV g x v) ∧ DF g r ds
  | _, _ => False

theorem DF.mono {g' : G} (hg : g.le g') : ∀ {l : List (AV × List AV)} {ds : List Deferred}, DF g l ds → DF g' l ds
  | [], [], _ => trivial
  | [], _ :: _, h => h.elim
  | _ :: _, [], h => h.elim
  | p :: r, q :: ds, ⟨⟨fn, first, caps, fv, cv, av, h1, h2, h3, h4, h5, h6⟩, h7⟩ =>
    ⟨⟨fn, first, caps, fv, cv, av, h1, h2.mono hg, h3, h4, h5, fun i x v e1 e2 => (h6 i x v e1 e2).mono hg⟩, DF.mono hg h7⟩

/-- what the machine's frame is to the reading's -/
structure Rel (B d : Nat) (g : G) (s : St) (a : Act) (w : World) : Prop where
  inv : Inv B g s.heap w
  fr : ∃ L R, FR g d s a.tmps w L R
  df : DF g s.defers a.defers

def After (B d : Nat) (g : G) (w : World) (s' : St) (a' : Act) (w' : World) : Prop := ∃ g', Keep B d g w g' w' ∧ Rel B d g' s' a' w'

theorem After.trans {g1 : G} {w1 w2 : World} {s2 : St} {a2 : Act} (k : Keep B d g w g1 w1) (h : After B d g1 w1 s2 a2 w2) : After B d g w s2 a2 w2 :=
  let ⟨g2, k2, r⟩ := h; ⟨g2, k.trans k2, r⟩

/-- the state behind an operation that gives a value, or none -/
def ORes.next (dst : Option Nat) : ORes → Option St
  | .val v s' => some (s'.put dst v)
  | .skp s' => some (s'.put dst (.tup []))
  | .pan _ _ => none

theorem put_tmps (a : Act) (dst : Option Nat) (v : Value) : (a.put dst v).tmps = putT a.tmps dst v ∧ (a.put dst v).defers = a.defers := by
  cases dst <;> exact ⟨rfl, rfl⟩

theorem St.put_same (s : St) (dst : Option Nat) (v : AV) : (s.put dst v).heap = s.heap ∧ (s.put dst v).defers = s.defers ∧ (s.put dst v).pan = s.pan ∧ (s.put dst v).recd = s.recd := by
  cases dst <;> exact ⟨rfl, rfl, rfl, rfl⟩

theorem undef_rf {k : Nat} : RF g L R k (.tup []) undef := by
  refine ⟨.tup _ _ rfl (fun i c x e => by simp at e), fun i c x e => by simp at e⟩

theorem Rel.put {g' : G} {s' : St} {w' : World} {L' : Nat → Option Nat} {R' : Rm} {av : AV} {v : Value} (dst : Option Nat) (hi : Inv B g' s'.heap w') (hf : FR g' d s' a.tmps w' L' R')
    (hr : RF g' L' R' s'.tk av v) (hl : lrefOk s' av) (hd : DF g' s'.defers a.defers) : Rel B d g' (s'.put dst av) (a.put dst v) w' := by
  obtain ⟨p1, p2⟩ := put_tmps a dst v
  obtain ⟨q1, q2, _, _⟩ := St.put_same s' dst av
  exact ⟨by rw [q1]; exact hi, ⟨L', R', by rw [p1]; exact hf.put dst hr hl⟩, by rw [q2, p2]; exact hd⟩

def SameD (s : St) : ORes → Prop
  | .val _ s' => s'.defers = s.defers ∧ s'.pan = s.pan ∧ s'.recd = s.recd
  | .skp s' => s'.defers = s.defers ∧ s'.pan = s.pan ∧ s'.recd = s.recd
  | .pan _ _ => True

theorem takeAt_same {x v : AV} {s' : St} (h : takeAt s x = some (v, s')) : s'.defers = s.defers ∧ s'.pan = s.pan ∧ s'.recd = s.recd := by
  unfold takeAt at h
  (repeat' split at h) <;> simp at h
  obtain ⟨_, rfl⟩ := h
  exact ⟨rfl, rfl, rfl⟩

theorem storeAt_same {x : AV} {vs : List AV} {s' : St} (h : storeAt s x vs = some s') : s'.defers = s.defers ∧ s'.pan = s.pan ∧ s'.recd = s.recd := by
  unfold storeAt at h
  (repeat' split at h) <;> simp at h
  · obtain ⟨_, _, rfl⟩ := h; exact ⟨rfl, rfl, rfl⟩
  · obtain ⟨_, _, rfl⟩ := h; exact ⟨rfl, rfl, rfl⟩

/-- an operation that calls nothing keeps the list of deferred calls -/
theorem stepOp_defers {callF : CallF} {dst : Option Nat} {so : SOp} {r : ORes} (hk : isCall so = false) (h : stepOp callF dst so s = some r) : SameD s r := by
  cases so <;> simp only [isCall, Bool.true_eq_false, reduceCtorEq] at hk <;> simp only [stepOp] at h
  case load ag n x tk =>
    cases tk with
    | false =>
      simp only [Option.map_eq_some_iff] at h
      obtain ⟨_, _, rfl⟩ := h
      exact ⟨rfl, rfl, rfl⟩
    | true =>
      simp only [Option.map_eq_some_iff] at h
      obtain ⟨⟨v, s'⟩, h, rfl⟩ := h
      exact takeAt_same h
  case store n x y =>
    split at h
    · simp only [Option.map_eq_some_iff] at h
      obtain ⟨s', h, rfl⟩ := h
      exact storeAt_same h
    · cases h
  all_goals
    first
      | (simp only [Option.map_eq_some_iff] at h; obtain ⟨_, _, rfl⟩ := h; exact ⟨rfl, rfl, rfl⟩)
      | ((repeat' split at h) <;> first | (simp only [Option.map_eq_some_iff] at h; obtain ⟨_, _, rfl⟩ := h; exact ⟨rfl, rfl, rfl⟩) | (simp only [Option.some.injEq] at h; subst h; exact ⟨rfl, rfl, rfl⟩) | (simp at h; done))

variable {callF : CallF} {o : Oper} {so : SOp} {r : ORes} {K : Act → World → Prop} {Q : Exit → Act → World → Prop}

theorem args_split {d : Nat} {first as_ caps : List AV} {fv cv : Array Value} {vs : List Value} (h1 : first.length = fv.size) (h2 : caps.length = cv.size) (h3 : as_.length = vs.length)
    (r1 : ∀ (i : Nat) x v, first[i]? = some x → fv[i]? = some v → RV g x v) (r2 : ∀ (i : Nat) x v, caps[i]? = some x → cv[i]? = some v → RV g x v)
    (r3 : ∀ (j : Nat) x v, as_[j]? = some x → vs[j]? = some v → RV g x v ∧ RetRoom g d (first.length + j) x v) :
    ArgsOk g d (nrms first ++ as_ ++ nrms caps) (fv ++ vs.toArray ++ cv) := by
  refine ⟨by simp [nrms, h1, h2, h3], fun i x v e1 e2 => ?_⟩
  rw [List.getElem?_append] at e1
  rw [Array.getElem?_append] at e2
  have hsz : (nrms first ++ as_).length = (fv ++ vs.toArray).size := by simp [nrms, h1, h3]
  by_cases hlt : i < (nrms first ++ as_).length
  · rw [if_pos hlt] at e1
    rw [if_pos (by omega)] at e2
    rw [List.getElem?_append] at e1
    rw [Array.getElem?_append] at e2
    have hsz1 : (nrms first).length = fv.size := by simp [nrms, h1]
    by_cases hl1 : i < (nrms first).length
    · rw [if_pos hl1] at e1
      rw [if_pos (by omega)] at e2
      simp only [nrms, List.getElem?_map, Option.map_eq_some_iff] at e1
      obtain ⟨y, e1, rfl⟩ := e1
      exact ⟨(r1 i y v e1 e2).nrm, .nrm _ _⟩
    · rw [if_neg hl1] at e1
      rw [if_neg (by omega)] at e2
      have := r3 (i - (nrms first).length) x v e1 (by rw [hsz1]; simpa using e2)
      have hl2 : first.length = (nrms first).length := by simp [nrms]
      rwa [hl2, show (nrms first).length + (i - (nrms first).length) = i by omega] at this
  · rw [if_neg hlt] at e1
    rw [if_neg (by omega)] at e2
    simp only [nrms, List.getElem?_map, Option.map_eq_some_iff] at e1
    obtain ⟨y, e1, rfl⟩ := e1
    refine ⟨(r2 _ y v e1 ?_).nrm, .nrm _ _⟩
    have hl3 : (List.map AV.nrm first ++ as_).length = (fv ++ vs.toArray).size := by simpa [nrms] using hsz
    rw [← hl3] at e2
    exact e2

/-- what a call in the machine comes to -/
theorem upon_call {f : FuncId} {argv : Array Value} {E : Ending → World → Prop} (hrun : (execOp a.eval o).run P w = (callFunc f argv).run P w) (hC : CallTo P f argv w E)
    (h1 : ∀ v w', E (.returned v) w' → K (a.put o.dst v) w') (h2 : ∀ ch w', E (.panicked ch) w' → Q (.panic ch) a w') (h3 : ∀ w', E .outgrown w' → LetsOut Q) :
    o.upon P a K Q ((execOp a.eval o).run P w) := by
  rw [hrun]
  rcases hC with ⟨h, argv', e, hc⟩ | ⟨v, w', e, hE⟩
  · rw [e, Oper.upon_enter]
    exact hc.mono fun e w' he => by
      cases e with
      | returned v => exact h1 v w' he
      | panicked ch => exact h2 ch w' he
      | outgrown => exact h3 w' he
  · rw [e, Oper.upon_value]
    exact h1 v w' hE

theorem call_parts {c : Call} (ho : o.op = .call c) {f' : Opd} {as' : List Opd} {fo : Operand} (hcal : c.callee = .value fo) (hF : cOpd P 0 fo = some f') (hA : cOpds P c.argTypes.toList c.args.toList = some as')
    {fr : FR g d s a.tmps w L R} {h : FuncId} {first caps : List AV} (he : ev s f' = .fn (.func h) first caps) :
    ∃ fv cv, RV g (.fn (.func h) first caps) (.func (.func h) fv cv) ∧ (execOp a.eval o).run P w = (callFunc h (fv ++ (c.args.toList.map a.eval).toArray ++ cv)).run P w ∧
      (as'.map (ev s)).length = (c.args.toList.map a.eval).length ∧
      ∀ (j : Nat) x v, (as'.map (ev s))[j]? = some x → (c.args.toList.map a.eval)[j]? = some v → RF g L R s.tk x v := by
  obtain ⟨hX, _⟩ := opd_rv hF fr he (by simp)
  rw [rho_eval] at hX
  generalize hv : a.eval fo = v at hX
  obtain ⟨hl, hA'⟩ := opds_ok hA fr
  cases hX with
  | fn _ _ _ fv cv q1 q2 q3 q4 =>
    refine ⟨fv, cv, .fn _ _ _ fv cv q1 q2 q3 q4, ?_, by simp [hl], fun j x v e1 e2 => ?_⟩
    · have harr : (List.map a.eval c.args.toList).toArray = c.args.map a.eval := by apply Array.ext'; simp
      rw [harr]
      simp [execOp, ho, resolve, hcal, hv, Deferred.ofValue, invoke]
    · simp only [List.getElem?_map, Option.map_eq_some_iff] at e1 e2
      obtain ⟨y, e1, rfl⟩ := e1
      obtain ⟨z, e2, rfl⟩ := e2
      have := hA' j y z e1 e2
      rwa [rho_eval] at this

theorem next_call {c : Call} (ho : o.op = .call c) {f' : Opd} {as' : List Opd} {fl : List Nat} {fo : Operand} (hcal : c.callee = .value fo) (hF : cOpd P 0 fo = some f') (hA : cOpds P c.argTypes.toList c.args.toList = some as')
    (hC : CallOk P B (d + 1) callF) (hs : stepOp callF o.dst (.call f' as' fl) s = some r) (h : Rel B d g s a w)
    (hn : ∀ s' a' w' g', r.next o.dst = some s' → Keep B d g w g' w' → Rel B d g' s' a' w' → K a' w')
    (hp : ∀ p s' w' g' v, r = .pan p s' → Keep B d g w g' w' → Rel B d g' s' a w' → RV g' p v → Q (.panic [{ v, recovered := false }]) a w') :
    o.upon P a K Q ((execOp a.eval o).run P w) := by
  obtain ⟨hi, ⟨L, R, hf⟩, hd⟩ := h
  simp only [stepOp] at hs
  generalize he : ev s f' = fe at hs
  cases fe <;> try (simp at hs; done)
  rename_i fn first caps
  cases fn <;> try (simp at hs; done)
  rename_i h
  simp only [] at hs
  generalize hpa : passA fl 0 s (as'.map (ev s)) = pa at hs
  cases pa with
  | none => simp at hs
  | some pa =>
    obtain ⟨as_, s1⟩ := pa
    simp only [] at hs
    obtain ⟨fv, cv, hRF, hrun, hlen, hrf⟩ := call_parts (fr := hf) ho hcal hF hA he
    obtain ⟨g1, R1, k1, i1, f1, e1, l1, _, q1⟩ := pass_ok fl _ _ 0 g R s s1 as_ first.length hpa hlen hrf hi hf
    have hA1 : ArgsOk g1 (d + 1) (nrms first ++ as_ ++ nrms caps) (fv ++ (c.args.toList.map a.eval).toArray ++ cv) := by
      cases hRF with
      | fn _ _ _ _ _ q1' q2' q3' q4' =>
        exact args_split q1' q2' (by rw [l1, hlen]) (fun i x v p q => (q3' i x v p q).mono k1.le) (fun i x v p q => (q4' i x v p q).mono k1.le) (fun j x v p q => by simpa using q1 j x v p q)
    have hs1h : s1.heap = s.heap := by rw [e1]
    generalize hcf : callF h (nrms first ++ as_ ++ nrms caps) s1.heap = cf at hs
    cases cf with
    | none => simp at hs
    | some cf =>
      obtain ⟨out, hp'⟩ := cf
      have hcall := hC _ _ _ _ _ hcf g1 w _ (hs1h ▸ i1) hA1
      refine upon_call hrun hcall (fun v w' hE => ?_) (fun ch w' hE => ?_) (fun w' hE => ?_)
      · obtain ⟨g', k', i', en⟩ := hE
        cases out with
        | pan p => exact en.elim
        | ret x =>
          simp only [Option.some.injEq] at hs
          subst hs
          have f2 := (f1.keep (Nat.lt_succ_self d) k').heap { s1 with heap := hp' } rfl rfl rfl rfl
          obtain ⟨g2, R2, k2, i2, f3, r3, l3⟩ := adopt_ok (s := { s1 with heap := hp' }) en i' f2
          have hdd : (adopt { s1 with heap := hp' } x).2.defers = s.defers := by
            have : s1.defers = s.defers := by rw [e1]
            unfold adopt
            split
            · rw [(adopts_heap _ _).2.1]; exact this
            · rw [(adopt1_heap _ _).2]; exact this
          have kk := (k1.trans (k'.mono (Nat.le_succ d))).trans k2
          exact hn _ _ _ g2 rfl kk (Rel.put o.dst i2 f3 r3 l3 (by rw [hdd]; exact hd.mono kk.le))
      · obtain ⟨g', k', i', en⟩ := hE
        cases out with
        | ret x => exact en.elim
        | pan p =>
          obtain ⟨x, rfl, hx⟩ := en
          simp only [Option.some.injEq] at hs
          subst hs
          have f2 := (f1.keep (Nat.lt_succ_self d) k').heap { s1 with heap := hp' } rfl rfl rfl rfl
          have kk := k1.trans (k'.mono (Nat.le_succ d))
          have : s1.defers = s.defers := by rw [e1]
          exact hp _ _ _ g' x rfl kk ⟨i', ⟨L, R1, f2⟩, by rw [show ({ s1 with heap := hp' } : St).defers = s.defers from this]; exact hd.mono kk.le⟩ hx
      · obtain ⟨g', k', i', en⟩ := hE
        cases out <;> exact en.elim

theorem nrm_nl (x : AV) : ∀ t o, x.nrm ≠ .lref t o := by
  intro t o
  cases x <;> simp [AV.nrm, AV.nrm1, AV.nrm0]

theorem next_rcall {c : Call} (ho : o.op = .call c) {f' : Opd} {as' : List Opd} {fo : Operand} (hcal : c.callee = .value fo) (hF : cOpd P 0 fo = some f') (hA : cOpds P c.argTypes.toList c.args.toList = some as')
    (hC : CallOk P B (d + 1) callF) (hs : stepOp callF o.dst (.rcall f' as') s = some r) (h : Rel B d g s a w)
    (hn : ∀ s' a' w' g', r.next o.dst = some s' → Keep B d g w g' w' → Rel B d g' s' a' w' → K a' w') :
    o.upon P a K Q ((execOp a.eval o).run P w) := by
  obtain ⟨hi, ⟨L, R, hf⟩, hd⟩ := h
  simp only [stepOp] at hs
  generalize he : ev s f' = fe at hs
  cases fe <;> try (simp at hs; done)
  rename_i fn first caps
  cases fn <;> try (simp at hs; done)
  rename_i h
  simp only [Option.map_eq_some_iff] at hs
  obtain ⟨av, hrc, rfl⟩ := hs
  obtain ⟨fv, cv, hRF, hrun, hlen, hrf⟩ := call_parts (fr := hf) ho hcal hF hA he
  have hA1 : ArgsOk g (d + 1) (nrms (first ++ as'.map (ev s) ++ caps)) (fv ++ (c.args.toList.map a.eval).toArray ++ cv) := by
    cases hRF with
    | fn _ _ _ _ _ q1' q2' q3' q4' =>
      have := args_split (d := d + 1) (as_ := nrms (as'.map (ev s))) (vs := c.args.toList.map a.eval) q1' q2' (by simpa [nrms] using hlen) q3' q4' (fun j x v p q => by
        simp only [nrms, List.getElem?_map, Option.map_eq_some_iff] at p
        obtain ⟨y, p, rfl⟩ := p
        exact ⟨RF.nrm (hrf j y v (by simpa using p) q), .nrm _ _⟩)
      simpa [nrms] using this
  unfold readCall at hrc
  generalize hcf : callF h (nrms (first ++ as'.map (ev s) ++ caps)) s.heap = cf at hrc
  cases cf with
  | none => simp at hrc
  | some cf =>
    obtain ⟨out, hp'⟩ := cf
    cases out with
    | pan p => simp at hrc
    | ret x =>
      simp only [] at hrc
      split at hrc
      · rename_i hag
        cases hrc
        have hhe := agreeH_eq hag
        subst hhe
        refine upon_call hrun (hC _ _ _ _ _ hcf g w _ hi hA1) (fun v w' hE => ?_) (fun ch w' hE => ?_) (fun w' hE => ?_)
        · obtain ⟨g', k', i', en⟩ := hE
          have f2 := hf.keep (Nat.lt_succ_self d) k'
          have kk := k'.mono (Nat.le_succ d)
          exact hn _ _ _ g' rfl kk (Rel.put o.dst i' f2 (RF_of en.1.nrm (Tk2_nrm _ _)) (lrefOk_of (nrm_nl x)) (hd.mono kk.le))
        · obtain ⟨g', k', i', en⟩ := hE; exact en.elim
        · obtain ⟨g', k', i', en⟩ := hE; exact en.elim
      · cases hrc

theorem next_dfr {c : Call} (ho : o.op = .defer c) {f' : Opd} {as' : List Opd} {fo : Operand} (hcal : c.callee = .value fo) (hF : cOpd P 0 fo = some f') (hA : cOpds P c.argTypes.toList c.args.toList = some as')
    (hs : stepOp callF o.dst (.dfr f' as') s = some r) (h : Rel B d g s a w)
    (hn : ∀ s' a' w' g', r.next o.dst = some s' → Keep B d g w g' w' → Rel B d g' s' a' w' → K a' w') :
    o.upon P a K Q ((execOp a.eval o).run P w) := by
  obtain ⟨hi, ⟨L, R, hf⟩, hd⟩ := h
  simp only [stepOp] at hs
  generalize he : ev s f' = fe at hs
  cases fe <;> try (simp at hs; done)
  rename_i fn first caps
  simp only [Option.some.injEq] at hs
  subst hs
  obtain ⟨hX, _⟩ := opd_rv hF hf he (by simp)
  rw [rho_eval] at hX
  generalize hv : a.eval fo = v at hX
  obtain ⟨hl, hA'⟩ := opds_ok hA hf
  have hX' := hX
  cases hX with
  | fn _ _ _ fv cv q1 q2 q3 q4 =>
    have hrun : (execOp a.eval o).run P w = .ok (.defer { target := .fn fn cv, args := fv ++ c.args.map a.eval }) w := by
      simp [execOp, ho, resolve, hcal, hv, Deferred.ofValue]
    rw [hrun, Oper.upon_defer]
    refine hn _ _ _ g rfl (.refl B d g w) (Rel.put (a := { a with defers := _ }) o.dst (s' := { s with defers := (.fn fn first caps, nrms (as'.map (ev s))) :: s.defers }) hi (hf.heap _ rfl rfl rfl rfl) undef_rf (by intro t o e; cases e) ?_)
    refine ⟨⟨fn, first, caps, fv, cv, c.args.map a.eval, rfl, hX', rfl, rfl, by simp [nrms, hl], fun i x v e1 e2 => ?_⟩, hd⟩
    simp only [nrms, List.getElem?_map, Option.map_eq_some_iff, Array.getElem?_map] at e1 e2
    obtain ⟨y, ⟨z, e1, rfl⟩, rfl⟩ := e1
    obtain ⟨u, e2, rfl⟩ := e2
    have := hA' i z u e1 (by simpa using e2)
    rw [rho_eval] at this
    exact RF.nrm this

theorem next_panic {x : Operand} {x' : Opd} (ho : o.op = .panic x) (hF : cOpd P 0 x = some x')
    (hs : stepOp callF o.dst (.panic x') s = some r) (h : Rel B d g s a w)
    (hp : ∀ p s' w' g' v, r = .pan p s' → Keep B d g w g' w' → Rel B d g' s' a w' → RV g' p v → Q (.panic [{ v, recovered := false }]) a w') :
    o.upon P a K Q ((execOp a.eval o).run P w) := by
  have h0 := h
  obtain ⟨hi, ⟨L, R, hf⟩, hd⟩ := h
  simp only [stepOp] at hs
  generalize he : ev s x' = fe at hs
  cases fe <;> try (simp at hs; done)
  rename_i t y
  simp only [Option.some.injEq] at hs
  subst hs
  obtain ⟨hX, _⟩ := opd_rv hF hf he (by simp)
  rw [rho_eval] at hX
  generalize hv : a.eval x = v at hX
  have hX' := hX
  cases hX with
  | iface _ _ u hu =>
    have hrun : (execOp a.eval o).run P w = .halt (.panic (.iface t u)) w := by
      simp [execOp, ho, hv, Instr.panic, goPanic]
    rw [hrun, Oper.upon_panic]
    exact hp _ _ w g _ rfl (.refl B d g w) h0 hX'

theorem cBuiltin_calls {b : Builtin} {ts : Array TypeId} {xs : Array Operand} (hc : cBuiltin P b ts xs = some so) (hk : isCall so = true) : b = .recover ∧ so = .recover := by
  unfold cBuiltin at hc
  (repeat' split at hc) <;> first
    | (cases hc; done)
    | (simp only [Option.some.injEq] at hc; subst hc; simp [isCall] at hk; done)
    | (simp only [Option.some.injEq] at hc; subst hc; exact ⟨rfl, rfl⟩)

theorem cOp_calls (hc : cOp P H o = some so) (hk : isCall so = true) :
    (∃ c fo f' as', o.op = .call c ∧ c.callee = .value fo ∧ cOpd P 0 fo = some f' ∧ cOpds P c.argTypes.toList c.args.toList = some as' ∧ (so = .rcall f' as' ∨ ∃ fl, so = .call f' as' fl)) ∨
    (∃ c, o.op = .call c ∧ c.callee = .builtin .recover ∧ so = .recover) ∨
    (∃ c fo f' as', o.op = .defer c ∧ c.callee = .value fo ∧ cOpd P 0 fo = some f' ∧ cOpds P c.argTypes.toList c.args.toList = some as' ∧ so = .dfr f' as') ∨
    (∃ x x', o.op = .panic x ∧ cOpd P 0 x = some x' ∧ so = .panic x') := by
  cases ho : o.op <;> unfold cOp at hc <;> rw [ho] at hc <;> dsimp only at hc
  case call c =>
    split at hc
    · rename_i b hb
      obtain ⟨rfl, rfl⟩ := cBuiltin_calls hc hk
      exact .inr (.inl ⟨c, rfl, hb, rfl⟩)
    · rename_i fo hfo
      split at hc
      · rename_i f' as' h1 h2
        refine .inl ⟨c, fo, f', as', rfl, hfo, h1, h2, ?_⟩
        by_cases hrc : rcHint H o.dst = true
        · rw [if_pos hrc] at hc; cases hc; exact .inl rfl
        · rw [if_neg hrc] at hc; cases hc; exact .inr ⟨_, rfl⟩
      · cases hc
    · cases hc
  case defer c =>
    split at hc
    · rename_i fo hfo
      split at hc
      · rename_i f' as' h1 h2
        cases hc
        exact .inr (.inr (.inl ⟨c, fo, f', as', rfl, hfo, h1, h2, rfl⟩))
      · cases hc
    · cases hc
  case panic x =>
    rw [Option.map_eq_some_iff] at hc
    obtain ⟨x', h1, rfl⟩ := hc
    exact .inr (.inr (.inr ⟨x, x', rfl, h1, rfl⟩))
  all_goals
    exfalso
    (repeat' split at hc) <;> first
      | (cases hc; done)
      | (simp only [Option.some.injEq] at hc; subst hc; simp [isCall] at hk; done)
      | (simp only [Option.map_eq_some_iff] at hc; obtain ⟨_, _, rfl⟩ := hc; simp [isCall] at hk; done)

/-- an operation in the machine, where the reading goes on -/
theorem op_next (hc : cOp P H o = some so) (hC : CallOk P B (d + 1) callF) (hs : stepOp callF o.dst so s = some r) (hrec : so ≠ .recover) (h : Rel B d g s a w)
    (hn : ∀ s' a' w' g', r.next o.dst = some s' → Keep B d g w g' w' → Rel B d g' s' a' w' → K a' w')
    (hp : ∀ p s' w' g' v, r = .pan p s' → Keep B d g w g' w' → Rel B d g' s' a w' → RV g' p v → Q (.panic [{ v, recovered := false }]) a w') :
    o.upon P a K Q ((execOp a.eval o).run P w) := by
  cases hk : isCall so with
  | false =>
    obtain ⟨hi, ⟨L, R, hf⟩, hd⟩ := h
    have hsnd := op_sound (callF := callF) (H := H) hc hk hi hf
    have hdef := stepOp_defers hk hs
    rw [hs] at hsnd
    cases r with
    | val av s' =>
      obtain ⟨v, w', r1, g', L', R', k, i, f, rf, lo⟩ := hsnd
      rw [rho_eval] at r1
      rw [r1, Oper.upon_value]
      exact hn _ _ _ g' rfl k (Rel.put o.dst i f rf lo (by rw [hdef.1]; exact hd.mono k.le))
    | skp s' =>
      obtain ⟨w', r1, g', L', R', k, i, f⟩ := hsnd
      rw [rho_eval] at r1
      rw [r1, Oper.upon_skip]
      exact hn _ _ _ g' rfl k (Rel.put o.dst i f undef_rf (by intro t o e; cases e) (by rw [hdef.1]; exact hd.mono k.le))
    | pan p s' => exact hsnd.elim
  | true =>
    rcases cOp_calls hc hk with ⟨c, fo, f', as', e1, e2, e3, e4, rfl | ⟨fl, rfl⟩⟩ | ⟨c, _, _, rfl⟩ | ⟨c, fo, f', as', e1, e2, e3, e4, rfl⟩ | ⟨x, x', e1, e2, rfl⟩
    · exact next_rcall e1 e2 e3 e4 hC hs h hn
    · exact next_call e1 e2 e3 e4 hC hs h hn hp
    · exact absurd rfl hrec
    · exact next_dfr e1 e2 e3 e4 hs h hn
    · exact next_panic e1 e2 hs h hp

end
end Go.PM

/- Regions in order: the machine runs them as the reading does. -/
namespace Go.PM
section
variable {P : Program} {H : Hints} {B d : Nat} {g : G} {s : St} {w : World} {a : Act} {u : FrameMode}

/-! ### frames -/

/-- what `recover` gives, and leaves of the caller's panic -/
def recU : FrameMode → Value × FrameMode
  | .panicking ({ v, recovered := false, goexit := false } :: older) => (v, .panicking ({ v, recovered := true } :: older))
  | u => (.nilIface, u)

def ModeR (g : G) : Option (Option AV) → Bool → FrameMode → Prop
  | none, _, _ => True
  | some (some p), false, u => ∃ v, u = .panicking [{ v, recovered := false }] ∧ RV g p v
  | some none, false, u => u = .returning
  | some none, true, u => ∃ v, u = .panicking [{ v, recovered := true }]
  | some (some _), true, _ => False

theorem ModeR.mono {g' : G} (hg : g.le g') {p : Option (Option AV)} {r : Bool} (h : ModeR g p r u) : ModeR g' p r u := by
  cases p with
  | none => trivial
  | some p =>
    cases p with
    | none => cases r <;> exact h
    | some p =>
      cases r
      · obtain ⟨v, h1, h2⟩ := h; exact ⟨v, h1, h2.mono hg⟩
      · exact h

def KO (b : Frame) (mk : FrameMode → List Frame) : Bool → Prop
  | true => b.kind = .deferred ∧ b.roundOf = none ∧ ∃ (c₀ : Frame) (cs : List Frame), mk = fun u => ({ c₀ with mode := u } : Frame) :: cs
  | false => ∃ cs, mk = fun _ => cs

def OneTo (P : Program) (dfd : Bool) (o : Oper) (a : Act) (u : FrameMode) (w : World) (K : Act → FrameMode → World → Prop) (Q : Exit → Act → FrameMode → World → Prop) : Prop :=
  ((execOp a.eval o).run P w = .ok .recover w ∧ dfd = true ∧ K (a.put o.dst (recU u).1) (recU u).2 w) ∨
  o.upon P a (fun a' w' => K a' u w') (fun e a' w' => Q e a' u w') ((execOp a.eval o).run P w)

def RegTo (P : Program) (dfd : Bool) (ops : Array Oper) (Q : Exit → Act → FrameMode → World → Prop) : List Nat → Act → FrameMode → World → Prop
  | [], a, u, w => Q .normal a u w
  | i :: rest, a, u, w => ∃ o, ops[i]? = some o ∧
      if Region.wanted o (yielded ops a.tmps) then OneTo P dfd o a u w (RegTo P dfd ops Q rest) Q else RegTo P dfd ops Q rest (a.put o.dst undef) u w

theorem upon_mono {o : Oper} {K K' : Act → World → Prop} {Q Q' : Exit → Act → World → Prop} (h1 : ∀ a w, K a w → K' a w) (h2 : ∀ e a w, Q e a w → Q' e a w) {r : Result Next} (h : o.upon P a K Q r) : o.upon P a K' Q' r := by
  cases r with
  | ok n w' =>
    cases n <;> simp only [Oper.upon] at h ⊢ <;>
      first
        | exact h1 _ _ h
        | exact Calls.mono h (fun e w'' he => by
            cases e with
            | returned v => exact h1 _ _ he
            | panicked c => exact h2 _ _ _ he
            | outgrown => obtain ⟨a, w, q⟩ := he; exact ⟨a, w, h2 _ _ _ q⟩)
        | exact Rows.mono h (fun _ _ he => h1 _ _ he)
  | halt x w' =>
    cases x <;> simp only [Oper.upon] at h ⊢ <;> exact h2 _ _ _ h

theorem upon_not_recover {o : Oper} {K : Act → World → Prop} {Q : Exit → Act → World → Prop} {w : World} (h : o.upon P a K Q (.ok .recover w)) : False := h

theorem regTo_wpOps {ops : Array Oper} {Q : Exit → Act → FrameMode → World → Prop} : ∀ (l : List Nat) (a : Act) (w : World), RegTo P false ops Q l a u w →
    wpOps P ops (fun e a' w' => Q e a' u w') l a w
  | [], a, w, h => h
  | i :: rest, a, w, ⟨o, ho, h⟩ => by
    simp only [wpOps, ho]
    split
    · rename_i hw
      rw [if_pos hw] at h
      rcases h with ⟨_, h, _⟩ | h
      · cases h
      · exact .inl (upon_mono (fun a' w' hk => regTo_wpOps rest a' w' hk) (fun _ _ _ hq => hq) h)
    · rename_i hw
      rw [if_neg hw] at h
      exact regTo_wpOps rest _ _ h

theorem recoverD_recU (c₀ : Frame) (cs : List Frame) (u : FrameMode) :
    (∃ v cs', recoverD ({ c₀ with mode := u } :: cs) = some (v, cs') ∧ v = (recU u).1 ∧ cs' = { c₀ with mode := (recU u).2 } :: cs) ∨
    (recoverD ({ c₀ with mode := u } :: cs) = none ∧ (recU u).1 = .nilIface ∧ (recU u).2 = u) := by
  simp only [recoverD]
  split
  · exact .inl ⟨_, _, rfl, rfl, rfl⟩
  · rename_i hno
    refine .inr ⟨rfl, ?_⟩
    unfold recU
    split
    · rename_i v older
      exact absurd rfl (hno v older)
    · exact ⟨rfl, rfl⟩

theorem regTo_wpOpsS {ops : Array Oper} {Q : Exit → Act → FrameMode → World → Prop} {c₀ : Frame} {cs : List Frame} : ∀ (l : List Nat) (a : Act) (u : FrameMode) (w : World), RegTo P true ops Q l a u w →
    wpOpsS P ops (fun e a' cs' w' => ∃ u', cs' = { c₀ with mode := u' } :: cs ∧ Q e a' u' w') l a ({ c₀ with mode := u } :: cs) w
  | [], a, u, w, h => ⟨u, rfl, h⟩
  | i :: rest, a, u, w, ⟨o, ho, h⟩ => by
    simp only [wpOpsS, ho]
    split
    · rename_i hw
      rw [if_pos hw] at h
      rcases h with ⟨h1, _, h2⟩ | h
      · rw [h1]
        simp only []
        rcases recoverD_recU c₀ cs u with ⟨v, cs', e1, e2, e3⟩ | ⟨e1, e2, e3⟩
        · rw [e1]
          simp only []
          subst e2; subst e3
          exact regTo_wpOpsS rest _ _ _ h2
        · rw [e1]
          simp only []
          rw [e2, e3] at h2
          exact regTo_wpOpsS rest _ _ _ h2
      · generalize hr : (execOp a.eval o).run P w = r at h
        split
        · exact (upon_not_recover h).elim
        · exact upon_mono (fun a' w' hk => regTo_wpOpsS rest a' u w' hk) (fun e a' w' hq => ⟨u, rfl, hq⟩) h
    · rename_i hw
      rw [if_neg hw] at h
      exact regTo_wpOpsS rest _ _ _ h

theorem regTo_arrives {dfd : Bool} {ops : Array Oper} {Q : Exit → Act → FrameMode → World → Prop} {l : List Nat} (h : RegTo P dfd ops Q l a u w) (b : Frame) (k : List Item) {mk : FrameMode → List Frame} (hk : KO b mk dfd) :
    ∃ e a' u' w', Q e a' u' w' ∧ Arrives P (lone (b.at a (.inRegion ops l :: k)) (mk u) w) b k (mk u') e a' w' := by
  cases dfd with
  | false =>
    obtain ⟨cs, rfl⟩ := hk
    obtain ⟨e, a', w', q, r⟩ := wp_ops l a w (regTo_wpOps l a w h) b k cs
    exact ⟨e, a', u, w', q, r⟩
  | true =>
    obtain ⟨h1, h2, c₀, cs, rfl⟩ := hk
    obtain ⟨e, a', cs', w', ⟨u', rfl, q⟩, r⟩ := wp_opsS l a _ w (regTo_wpOpsS (c₀ := c₀) (cs := cs) l a u w h) b k h1 h2
    exact ⟨e, a', u', w', q, r⟩

/-! ### what is left of a run -/

def ExitOk (g : G) : Ex → Exit → Prop
  | .norm, .normal => True
  | .ret, .ret => True
  | .brk i, .exit j => i = j
  | .goto l, .goto m => l = m
  | .pan v, .panic ch => ∃ x, ch = [{ v := x, recovered := false }] ∧ RV g v x
  | _, _ => False

def Post (B d : Nat) (dfd : Bool) (g : G) (w : World) (ex : Ex) (s' : St) (e : Exit) (a' : Act) (u' : FrameMode) (w' : World) : Prop :=
  ∃ g', Keep B d g w g' w' ∧ Rel B d g' s' a' w' ∧ ModeR g' s'.pan s'.recd u' ∧ ExitOk g' ex e ∧ s'.pan.isSome = dfd

theorem Post.trans {dfd : Bool} {g1 : G} {w1 : World} {ex : Ex} {s' : St} (k : Keep B d g w g1 w1) {e : Exit} {a' : Act} {u' : FrameMode} {w' : World} (h : Post B d dfd g1 w1 ex s' e a' u' w') : Post B d dfd g w ex s' e a' u' w' :=
  let ⟨g', k', r⟩ := h; ⟨g', k.trans k', r⟩

theorem RegTo.mono {dfd : Bool} {ops : Array Oper} {Q Q' : Exit → Act → FrameMode → World → Prop} (hq : ∀ e a u w, Q e a u w → Q' e a u w) : ∀ {l : List Nat} {a : Act} {u : FrameMode} {w : World}, RegTo P dfd ops Q l a u w → RegTo P dfd ops Q' l a u w
  | [], a, u, w, h => hq _ _ _ _ h
  | i :: rest, a, u, w, ⟨o, ho, h⟩ => by
    refine ⟨o, ho, ?_⟩
    split
    · rename_i hw
      rw [if_pos hw] at h
      rcases h with ⟨h1, h2, h3⟩ | h
      · exact .inl ⟨h1, h2, RegTo.mono hq h3⟩
      · exact .inr (upon_mono (fun a' w' hk => RegTo.mono hq hk) (fun e a' w' hh => hq _ _ _ _ hh) h)
    · rename_i hw
      rw [if_neg hw] at h
      exact RegTo.mono hq h

theorem stepOp_pan {callF : CallF} {dst : Option Nat} {so : SOp} {r : ORes} (hk : so ≠ .recover) (h : stepOp callF dst so s = some r) :
    (∀ v s', r = .val v s' → s'.pan = s.pan ∧ s'.recd = s.recd) ∧ (∀ s', r = .skp s' → s'.pan = s.pan ∧ s'.recd = s.recd) ∧ (∀ v s', r = .pan v s' → s'.pan = s.pan ∧ s'.recd = s.recd) := by
  cases hc : isCall so with
  | false =>
    have := stepOp_defers hc h
    refine ⟨fun v s' e => ?_, fun s' e => ?_, fun v s' e => ?_⟩
    · subst e; exact this.2
    · subst e; exact this.2
    · subst e
      cases so <;> simp only [isCall, Bool.true_eq_false, reduceCtorEq] at hc <;> simp only [stepOp] at h
      all_goals
        first
          | (simp only [Option.map_eq_some_iff] at h; obtain ⟨_, _, h⟩ := h; cases h; done)
          | ((repeat' split at h) <;> first | (simp only [Option.map_eq_some_iff] at h; obtain ⟨_, _, h⟩ := h; cases h; done) | (simp at h; done))
  | true =>
    have hpass : ∀ (fl : List Nat) (l : List AV) (i : Nat) (s s1 : St) (as_ : List AV), passA fl i s l = some (as_, s1) → s1.pan = s.pan ∧ s1.recd = s.recd := by
      intro fl l
      induction l with
      | nil =>
        intro i s s1 as_ h
        simp only [passA, Option.some.injEq, Prod.mk.injEq] at h
        rw [h.2]; exact ⟨rfl, rfl⟩
      | cons a l ih =>
        intro i s s1 as_ h
        simp only [passA] at h
        (repeat' split at h) <;> first | (cases h; done) | skip
        all_goals
          rw [Option.map_eq_some_iff] at h
          obtain ⟨⟨q, s2⟩, h, e⟩ := h
          cases e
          have := ih _ _ _ _ h
          exact this
    have had : ∀ (s : St) (x : AV), (adopt s x).2.pan = s.pan ∧ (adopt s x).2.recd = s.recd := by
      intro s x
      unfold adopt
      split
      · exact (adopts_heap _ s).2.2
      · unfold adopt1; split <;> exact ⟨rfl, rfl⟩
    cases so <;> simp only [isCall, Bool.false_eq_true] at hc <;> simp only [stepOp] at h
    case call f args fl =>
      split at h
      · split at h
        · rename_i as_ s1 hpa
          have hp := hpass _ _ _ _ _ _ hpa
          split at h
          · rename_i x hp' hcf
            cases h
            refine ⟨fun v s' e => ?_, fun s' e => (by cases e), fun v s' e => (by cases e)⟩
            cases e
            exact ⟨(had _ _).1.trans hp.1, (had _ _).2.trans hp.2⟩
          · cases h
            refine ⟨fun v s' e => (by cases e), fun s' e => (by cases e), fun v s' e => ?_⟩
            cases e; exact hp
          · cases h
        · cases h
      · cases h
    case rcall f args =>
      split at h
      · rw [Option.map_eq_some_iff] at h
        obtain ⟨x, _, rfl⟩ := h
        refine ⟨fun v s' e => ?_, fun s' e => (by cases e), fun v s' e => (by cases e)⟩
        cases e; exact ⟨rfl, rfl⟩
      · cases h
    case dfr f args =>
      split at h
      · cases h
        refine ⟨fun v s' e => (by cases e), fun s' e => ?_, fun v s' e => (by cases e)⟩
        cases e; exact ⟨rfl, rfl⟩
      · cases h
    case panic x =>
      split at h
      · cases h
        refine ⟨fun v s' e => (by cases e), fun s' e => (by cases e), fun v s' e => ?_⟩
        cases e; exact ⟨rfl, rfl⟩
      · cases h
    case recover => exact absurd rfl hk

/-- does an operation run? -/
theorem guard_ok {ops : Array Oper} {o : Oper} {gd : Option (Nat × Bool)} {b : Bool} (hg : cGuard ops o.guard = some gd) (hw : wantedS s gd = some b) (h : Rel B d g s a w) :
    Region.wanted o (yielded ops a.tmps) = b := by
  obtain ⟨hi, ⟨L, R, hf⟩, hd⟩ := h
  unfold cGuard at hg
  split at hg
  · rename_i e
    cases hg
    simp only [wantedS, Option.some.injEq] at hw
    simp [Region.wanted, e, hw]
  · rename_i j want e
    split at hg
    · rename_i oj hoj
      split at hg
      · rename_i t ht
        cases hg
        have hy : yielded ops a.tmps j = match a.tmps[t]? with | some (.bool b) => some b | _ => none := by
          unfold yielded
          rw [hoj]
          simp only [Option.bind_some, ht]
          rfl
        simp only [Region.wanted, e, hy]
        simp only [wantedS] at hw
        rw [List.getD_eq_getElem?_getD] at hw
        cases hst : s.tmps[t]? with
        | none => rw [hst] at hw; simp at hw
        | some av =>
          rw [hst] at hw
          simp only [Option.getD_some] at hw
          have hlt : t < a.tmps.size := by rw [hf.sz]; exact (List.getElem?_eq_some_iff.1 hst).1
          have hrf := hf.tm t av _ hst (Array.getElem?_eq_getElem hlt)
          rw [Array.getElem?_eq_getElem hlt]
          generalize a.tmps[t] = v at hrf
          split at hw
          · rename_i b'
            cases hrf.1
            simp only [Option.some.injEq] at hw
            subst hw
            cases b' <;> cases want <;> rfl
          · have hv := hrf.1
            cases hv with
            | tup _ vs hl hh =>
              simp only [Option.some.injEq] at hw
              subst hw
              rfl
          · cases hw
      · cases hg
    · cases hg

theorem cOper_ok {ops : Array Oper} {o : Oper} {lo hi : Nat} {so : SOper} (h : cOper P H ops o lo hi = some so) :
    cOp P H o = some so.op ∧ cGuard ops o.guard = some so.guard ∧ so.dst = o.dst := by
  unfold cOper at h
  split at h
  · cases h; exact ⟨‹_›, ‹_›, rfl⟩
  · cases h

theorem undef_put {o : Oper} {dst : Option Nat} (h : Rel B d g s a w) : Rel B d g (s.put dst (.tup [])) (a.put dst undef) w := by
  obtain ⟨hi, ⟨L, R, hf⟩, hd⟩ := h
  exact Rel.put dst hi hf undef_rf (by intro t o e; cases e) hd

/-- one operation, and what comes behind it -/
theorem one_to {callF : CallF} {o : Oper} {so : SOp} {dfd : Bool} {r : ORes} {K : Act → FrameMode → World → Prop} {Q : Exit → Act → FrameMode → World → Prop} (hc : cOp P H o = some so) (hC : CallOk P B (d + 1) callF)
    (hs : stepOp callF o.dst so s = some r) (h : Rel B d g s a w) (hm : ModeR g s.pan s.recd u) (hdf : s.pan.isSome = dfd)
    (hn : ∀ s1 a1 u1 w1 g1, r.next o.dst = some s1 → Keep B d g w g1 w1 → Rel B d g1 s1 a1 w1 → ModeR g1 s1.pan s1.recd u1 → s1.pan.isSome = dfd → K a1 u1 w1)
    (hp : ∀ p s1 u1 w1 g1 v, r = .pan p s1 → Keep B d g w g1 w1 → Rel B d g1 s1 a w1 → ModeR g1 s1.pan s1.recd u1 → s1.pan.isSome = dfd → RV g1 p v → Q (.panic [{ v, recovered := false }]) a u1 w1) :
    OneTo P dfd o a u w K Q := by
  by_cases hrec : so = .recover
  · subst hrec
    obtain ⟨c, hoc, hcal⟩ : ∃ c, o.op = .call c ∧ c.callee = .builtin .recover := by
      rcases cOp_calls hc rfl with ⟨c, fo, f', as', e1, e2, e3, e4, h | ⟨fl, h⟩⟩ | ⟨c, h1, h2, _⟩ | ⟨c, fo, f', as', e1, e2, e3, e4, h⟩ | ⟨x, x', e1, e2, h⟩
      · cases h
      · cases h
      · exact ⟨c, h1, h2⟩
      · cases h
      · cases h
    have hrun : (execOp a.eval o).run P w = .ok .recover w := by
      simp [execOp, hoc, resolve, hcal, invoke, builtin]
    have h0 := h
    obtain ⟨hi, ⟨L, R, hf⟩, hd⟩ := h
    simp only [stepOp] at hs
    cases hpan : s.pan with
    | none => rw [hpan] at hs; simp at hs
    | some pp =>
      rw [hpan] at hs hm
      have hdt : dfd = true := by rw [← hdf, hpan]; rfl
      refine .inl ⟨hrun, hdt, ?_⟩
      cases pp with
      | none =>
        simp only [Option.some.injEq] at hs
        subst hs
        obtain ⟨_, _, q3, q4⟩ := St.put_same s o.dst .nili
        have hu : recU u = (.nilIface, u) := by
          cases hre : s.recd with
          | false => rw [hre] at hm; rw [show u = .returning from hm]; rfl
          | true => rw [hre] at hm; obtain ⟨v, rfl⟩ := hm; rfl
        rw [hu]
        refine hn _ _ _ _ g rfl (.refl B d g w) (Rel.put o.dst hi hf ⟨.nili, trivial⟩ (by intro t o e; cases e) hd) ?_ (by rw [q3, hpan, hdt]; rfl)
        rw [q3, q4, hpan]; exact hm
      | some p =>
        simp only [Option.some.injEq] at hs
        subst hs
        cases hre : s.recd with
        | true => rw [hre] at hm; exact hm.elim
        | false =>
          rw [hre] at hm
          obtain ⟨v, rfl, hv⟩ := hm
          have := St.put_same { s with pan := some none, recd := true } o.dst p.nrm
          obtain ⟨_, _, q3, q4⟩ := this
          refine hn _ _ _ _ g rfl (.refl B d g w) (Rel.put (s' := { s with pan := some none, recd := true }) o.dst hi (hf.heap _ rfl rfl rfl rfl) (RF_of hv.nrm (Tk2_nrm _ _)) (lrefOk_of (nrm_nl p)) hd) ?_ (by rw [q3, hdt]; rfl)
          rw [q3, q4]
          exact ⟨v, rfl⟩
  · obtain ⟨p1, p2, p3⟩ := stepOp_pan hrec hs
    refine .inr (op_next hc hC hs hrec h (fun s1 a1 w1 g1 e k rl => ?_) (fun p s1 w1 g1 v e k rl hv => ?_))
    · have hpr : s1.pan = s.pan ∧ s1.recd = s.recd := by
        cases r <;> simp only [ORes.next, Option.some.injEq, reduceCtorEq] at e
        · subst e
          obtain ⟨_, _, q3, q4⟩ := St.put_same ‹St› o.dst ‹AV›
          obtain ⟨z1, z2⟩ := p1 _ _ rfl
          exact ⟨q3.trans z1, q4.trans z2⟩
        · subst e
          obtain ⟨_, _, q3, q4⟩ := St.put_same ‹St› o.dst (.tup [])
          obtain ⟨z1, z2⟩ := p2 _ rfl
          exact ⟨q3.trans z1, q4.trans z2⟩
      exact hn s1 a1 u w1 g1 e k rl (by rw [hpr.1, hpr.2]; exact hm.mono k.le) (by rw [hpr.1]; exact hdf)
    · obtain ⟨z1, z2⟩ := p3 _ _ e
      exact hp p s1 u w1 g1 v e k rl (by rw [z1, z2]; exact hm.mono k.le) (by rw [z1]; exact hdf) hv

theorem seq_ops {callF : CallF} {ops : Array Oper} {dfd : Bool} {ex : Ex} {s' : St} (hC : CallOk P B (d + 1) callF) : ∀ (os : List Oper) (l : List SOper) (k : Nat) (g : G) (s : St) (a : Act) (u : FrameMode) (w : World),
    ops.toList.drop k = os → cOpers P H ops os = some l → runOps callF l s = some (ex, s') → Rel B d g s a w → ModeR g s.pan s.recd u → s.pan.isSome = dfd →
    RegTo P dfd ops (Post B d dfd g w ex s') (List.range' k (ops.size - k)) a u w := by
  intro os
  induction os with
  | nil =>
    intro l k g s a u w hd hc hr h hm hdf
    simp only [cOpers, Option.some.injEq] at hc
    subst hc
    simp only [runOps, Option.some.injEq, Prod.mk.injEq] at hr
    obtain ⟨rfl, rfl⟩ := hr
    have : ops.size - k = 0 := by
      have := congrArg List.length hd
      simpa using this
    rw [this]
    exact ⟨g, .refl B d g w, h, hm, trivial, hdf⟩
  | cons o os ih =>
    intro l k g s a u w hd hc hr h hm hdf
    have hk : k < ops.size := by
      have := congrArg List.length hd
      simp at this; omega
    have hok : ops[k]? = some o := by
      have := congrArg (fun l => l[0]?) hd
      simpa using this
    have hd' : ops.toList.drop (k + 1) = os := by
      have := congrArg List.tail hd
      simpa using this
    rw [show ops.size - k = (ops.size - (k + 1)) + 1 by omega, List.range'_succ]
    simp only [cOpers] at hc
    split at hc
    · rename_i so q h1 h2
      cases hc
      obtain ⟨c1, c2, c3⟩ := cOper_ok h1
      refine ⟨o, hok, ?_⟩
      simp only [runOps] at hr
      generalize hw : wantedS s so.guard = ws at hr
      cases ws with
      | none => simp at hr
      | some wb =>
        rw [guard_ok c2 hw h]
        cases wb with
        | false =>
          simp only [Bool.false_eq_true, if_false]
          simp only [] at hr
          rw [c3] at hr
          obtain ⟨_, _, q3, q4⟩ := St.put_same s o.dst (.tup [])
          exact ih q (k + 1) g _ _ u w hd' h2 hr (undef_put (o := o) h) (by rw [q3, q4]; exact hm) (by rw [q3]; exact hdf)
        | true =>
          simp only [if_true]
          simp only [] at hr
          rw [c3] at hr
          generalize hst : stepOp callF o.dst so.op s = st at hr
          cases st with
          | none => simp at hr
          | some r =>
            refine one_to c1 hC hst h hm hdf (fun s1 a1 u1 w1 g1 e k1 r1 m1 d1 => ?_) (fun p s1 u1 w1 g1 v e k1 r1 m1 d1 hv => ?_)
            · have hr' : runOps callF q s1 = some (ex, s') := by
                cases r <;> simp only [ORes.next, Option.some.injEq, reduceCtorEq] at e <;> subst e <;> exact hr
              exact RegTo.mono (fun e a u w q => q.trans k1) (ih q (k + 1) g1 s1 a1 u1 w1 hd' h2 hr' r1 m1 d1)
            · subst e
              simp only [Option.some.injEq, Prod.mk.injEq] at hr
              obtain ⟨rfl, rfl⟩ := hr
              exact ⟨g1, k1, r1, m1, ⟨v, rfl, hv⟩, d1⟩
    · cases hc

end
end Go.PM

/- Code: what the reading runs, the machine runs. -/
namespace Go.PM
section
variable {P : Program} {H : Hints} {B d : Nat} {g : G} {s : St} {w : World} {a : Act} {u : FrameMode} {tm : Array Value} {L : Nat → Option Nat} {R : Rm}

/-! ### what is forgotten at a loop's head -/

theorem clr_get {α : Type} (keep : List Nat) (z : α) : ∀ (l : List α) (i j : Nat), (clr keep z i l)[j]? = (l[j]?).map fun x => if keep.contains (i + j) then x else z
  | [], i, j => by simp [clr]
  | x :: l, i, 0 => by simp [clr]
  | x :: l, i, j + 1 => by
    simp only [clr, List.getElem?_cons_succ]
    rw [clr_get keep z l (i + 1) j, show i + 1 + j = i + (j + 1) by omega]

theorem clr_len {α : Type} (keep : List Nat) (z : α) : ∀ (l : List α) (i : Nat), (clr keep z i l).length = l.length
  | [], i => rfl
  | x :: l, i => by simp [clr, clr_len keep z l (i + 1)]

theorem strays_ok {keep : List Nat} {loc : List (Option (List AV))} : ∀ {l : List AV}, strays keep loc l = false → ∀ t o, AV.lref t o ∈ l → keep.contains t = true
  | [], _, t, o, h => by simp at h
  | x :: l, hs, t, o, h => by
    rcases List.mem_cons.1 h with e | e
    · subst e
      simp only [strays, Bool.or_eq_false_iff, Bool.not_eq_false'] at hs
      exact hs.1
    · refine strays_ok (l := l) (loc := loc) ?_ t o e
      cases x <;> simp only [strays, Bool.or_eq_false_iff] at hs <;> first | exact hs | exact hs.2

theorem FR.clear {keep : List Nat} (h : FR g d s tm w L R) (hs : strays keep s.loc (clr keep .undef 0 s.tmps) = false) : FR g d (s.clear keep) tm w L R := by
  have key : ∀ (t : Nat) (av : AV), (s.clear keep).tmps[t]? = some av → (s.tmps[t]? = some av) ∨ (av = .undef) := by
    intro t av e
    simp only [St.clear, clr_get, Option.map_eq_some_iff] at e
    obtain ⟨x, e1, e2⟩ := e
    split at e2
    · exact .inl (e2 ▸ e1)
    · exact .inr e2.symm
  refine ⟨by simp [St.clear, clr_len, h.sz], by simp [St.clear, clr_len, h.ls], fun t av v h1 h2 => ?_, fun t cs h1 => ?_, h.rg, h.rk, h.lv, h.lk, fun t t' off h1 => ?_⟩
  · rcases key t av h1 with e | rfl
    · exact h.tm t av v e h2
    · exact ⟨.undef _, trivial⟩
  · refine h.lc t cs ?_
    simp only [St.clear, clr_get, Option.map_eq_some_iff] at h1
    obtain ⟨x, e1, e2⟩ := h1
    split at e2
    · exact e2 ▸ e1
    · cases e2
  · have hk := strays_ok hs t' off (List.mem_of_getElem? h1)
    rcases key t _ h1 with e | e
    · obtain ⟨cs, e⟩ := h.st t t' off e
      refine ⟨cs, ?_⟩
      simp only [St.clear, clr_get, e, Option.map_some, Nat.zero_add, hk, if_true]
    · cases e

theorem Rel.clear {keep : List Nat} (h : Rel B d g s a w) (hs : strays keep s.loc (clr keep .undef 0 s.tmps) = false) : Rel B d g (s.clear keep) a w :=
  ⟨h.inv, let ⟨L, R, f⟩ := h.fr; ⟨L, R, f.clear hs⟩, h.df⟩

theorem Rel.drawn (k : Nat) (h : Rel B d g s a w) : Rel B d g s a { w with drawn := k } :=
  ⟨h.inv.drawn k, let ⟨L, R, f⟩ := h.fr; ⟨L, R, f.drawn k⟩, h.df⟩

/-! ### labels -/

theorem findLabel_ok : ∀ {c : Code} {sc : SC}, cCode P H c = some sc → ∀ l,
    (∀ r, findLabel sc l = some r → ∃ rest, _root_.Go.findLabel c l = some rest ∧ cCode P H rest = some r) ∧ (findLabel sc l = none → _root_.Go.findLabel c l = none) := by
  intro c
  induction c with
  | seq x y ihx ihy =>
    intro sc hc l
    simp only [cCode] at hc
    split at hc
    · rename_i sx sy h1 h2
      cases hc
      obtain ⟨a1, a2⟩ := ihx h1 l
      obtain ⟨b1, b2⟩ := ihy h2 l
      simp only [findLabel, _root_.Go.findLabel]
      cases hx : findLabel sx l with
      | some r =>
        obtain ⟨rest, e1, e2⟩ := a1 r hx
        rw [e1]
        exact ⟨fun r' h => ⟨_, rfl, (by simp only [Option.some.injEq] at h; subst h; simp [cCode, e2, h2])⟩, fun h => (by cases h)⟩
      | none =>
        rw [a2 hx]
        exact ⟨fun r' h => b1 r' h, fun h => b2 h⟩
    · cases hc
  | label l' =>
    intro sc hc l
    simp only [cCode, Option.some.injEq] at hc
    subst hc
    simp only [findLabel, _root_.Go.findLabel]
    by_cases e : l' = l
    · subst e
      simp only [if_true, beq_self_eq_true]
      exact ⟨fun r h => ⟨_, rfl, (by cases h; rfl)⟩, fun h => (by cases h)⟩
    · have : (l' == l) = false := by simpa using e
      simp only [e, this, if_false]
      exact ⟨fun r h => (by cases h), fun _ => (by simp)⟩
  | _ =>
    intro sc hc l
    have : (∀ x y, sc ≠ .seq x y) ∧ ∀ m, sc ≠ .label m := by
      unfold cCode at hc
      (repeat' split at hc) <;> first
        | (cases hc; done)
        | (simp only [Option.map_eq_some_iff] at hc; obtain ⟨_, _, rfl⟩ := hc; simp; done)
        | (simp only [Option.some.injEq] at hc; subst hc; simp; done)
        | (simp_all; done)
    have hn : findLabel sc l = none := by
      cases sc <;> first | rfl | exact absurd rfl (this.1 _ _) | exact absurd rfl (this.2 _)
    rw [hn]
    exact ⟨fun r h => (by cases h), fun _ => rfl⟩

/-! ### the statements -/

def Done (P : Program) (B d : Nat) (dfd : Bool) (g : G) (w0 : World) (ex : Ex) (s' : St) (b : Frame) (k : List Item) (mk : FrameMode → List Frame) (m : Machine) : Prop :=
  ∃ e a' u' w', Post B d dfd g w0 ex s' e a' u' w' ∧ Arrives P m b k (mk u') e a' w'

theorem Done.trans {dfd : Bool} {g1 : G} {w0 w1 : World} {ex : Ex} {s' : St} {b : Frame} {k : List Item} {mk : FrameMode → List Frame} {m : Machine} (hk : Keep B d g w0 g1 w1) (h : Done P B d dfd g1 w1 ex s' b k mk m) : Done P B d dfd g w0 ex s' b k mk m :=
  let ⟨e, a', u', w', p, r⟩ := h; ⟨e, a', u', w', p.trans hk, r⟩

theorem Done.steps {dfd : Bool} {w0 : World} {ex : Ex} {s' : St} {b : Frame} {k : List Item} {mk : FrameMode → List Frame} {m m' : Machine} (hs : Steps P m m') (h : Done P B d dfd g w0 ex s' b k mk m') : Done P B d dfd g w0 ex s' b k mk m :=
  let ⟨e, a', u', w', p, r⟩ := h; ⟨e, a', u', w', p, .of_steps hs r⟩

variable (P B) (Pr : Prims) (Pg : FuncId → Option SF)

def SimAt (n : Nat) : Prop := ∀ (keep : List Nat) (H : Hints) (c : Code) (sc : SC), cCode P H c = some sc → ∀ s ex s', run Pr Pg n keep sc s = some (ex, s') →
  ∀ d g a u w dfd, Rel B d g s a w → ModeR g s.pan s.recd u → s.pan.isSome = dfd → ∀ b k mk, KO b mk dfd → Done P B d dfd g w ex s' b k mk (lone (b.at a (.code c :: k)) (mk u) w)

def LoopAt (n : Nat) : Prop := ∀ (keep : List Nat) (H : Hints) (c : Code) (sc : SC), cCode P H c = some sc → ∀ s ex s', run Pr Pg n keep (.loop sc) s = some (ex, s') →
  ∀ d g a u w dfd, Rel B d g s a w → ModeR g s.pan s.recd u → s.pan.isSome = dfd → ∀ b k mk, KO b mk dfd → Done P B d dfd g w ex s' b k mk (lone (b.at a (.code c :: .inLoop c :: k)) (mk u) w)

def ScopeAt (n : Nat) : Prop := ∀ (keep : List Nat) (H : Hints) (cb c : Code) (sb sc : SC), cCode P H cb = some sb → cCode P H c = some sc → ∀ s ex s', run Pr Pg n keep (.inscope sb sc) s = some (ex, s') →
  ∀ d g a u w dfd, Rel B d g s a w → ModeR g s.pan s.recd u → s.pan.isSome = dfd → ∀ b k mk, KO b mk dfd → Done P B d dfd g w ex s' b k mk (lone (b.at a (.code c :: .inScope cb :: k)) (mk u) w)

/-- a region that draws its order: whatever the order -/
def DrawOk : Prop := ∀ (callF : CallF) d, CallOk P B (d + 1) callF → ∀ H (ops : Array Oper) l s ex s', cOpers P H ops ops.toList = some l → drawOk (Region.before ops) l = true → edgesOk ops = true →
  runReg callF (annot (Region.before ops) (effs l) l) true s = some (ex, s') → ∀ g a u w dfd, Rel B d g s a w → ModeR g s.pan s.recd u → s.pan.isSome = dfd →
  ∀ t, RegTo P dfd ops (Post B d dfd g w ex s') (Region.schedule (P.follows .mixedOrders) ops t) a u w

variable {P B Pr Pg}

theorem sim_zero : SimAt P B Pr Pg 0 ∧ LoopAt P B Pr Pg 0 ∧ ScopeAt P B Pr Pg 0 :=
  ⟨fun _ _ _ _ _ _ _ _ h => by simp [run] at h, fun _ _ _ _ _ _ _ _ h => by simp [run] at h, fun _ _ _ _ _ _ _ _ _ _ _ h => by simp [run] at h⟩

theorem loop_succ {n : Nat} (hS : SimAt P B Pr Pg n) (hL : LoopAt P B Pr Pg n) : LoopAt P B Pr Pg (n + 1) := by
  intro keep H c sc hc s ex s' hr d g a u w dfd h hm hdf b k mk hk
  simp only [run] at hr
  split at hr
  · cases hr
  · rename_i hst
    have hst : strays keep s.loc (clr keep .undef 0 s.tmps) = false := by simpa using hst
    generalize h1 : run Pr Pg n keep sc (s.clear keep) = r1 at hr
    cases r1 with
    | none => simp at hr
    | some r1 =>
      obtain ⟨ex1, s1⟩ := r1
      obtain ⟨e, a1, u1, w1, hp, harr⟩ := hS keep H c sc hc _ _ _ h1 d g a u w dfd (h.clear hst) hm hdf b (.inLoop c :: k) mk hk
      obtain ⟨g1, k1, rel1, m1, eo, d1⟩ := hp
      cases ex1 with
      | norm =>
        cases e <;> first | exact eo.elim | skip
        simp only [] at hr
        exact .steps (Steps.trans harr (.one step_inLoop)) (.trans k1 (hL keep H c sc hc s1 ex s' hr d g1 a1 u1 w1 dfd rel1 m1 d1 b k mk hk))
      | _ =>
        simp only [Option.some.injEq, Prod.mk.injEq] at hr
        obtain ⟨rfl, rfl⟩ := hr
        cases e <;> first | exact eo.elim | exact ⟨_, a1, u1, w1, ⟨g1, k1, rel1, m1, eo, d1⟩, .pass (x := .inLoop c) rfl (fun _ _ => .inl (by simp)) harr⟩

theorem scope_succ {n : Nat} (hS : SimAt P B Pr Pg n) (hSc : ScopeAt P B Pr Pg n) : ScopeAt P B Pr Pg (n + 1) := by
  intro keep H cb c sb sc hcb hc s ex s' hr d g a u w dfd h hm hdf b k mk hk
  simp only [run] at hr
  generalize h1 : run Pr Pg n keep sc s = r1 at hr
  cases r1 with
  | none => simp at hr
  | some r1 =>
    obtain ⟨ex1, s1⟩ := r1
    obtain ⟨e, a1, u1, w1, hp, harr⟩ := hS keep H c sc hc _ _ _ h1 d g a u w dfd h hm hdf b (.inScope cb :: k) mk hk
    obtain ⟨g1, k1, rel1, m1, eo, d1⟩ := hp
    cases ex1 with
    | goto l =>
      cases e <;> first | exact eo.elim | skip
      rename_i l'
      have e' : l = l' := eo
      subst e'
      simp only [] at hr
      obtain ⟨f1, f2⟩ := findLabel_ok hcb l
      cases hfl : findLabel sb l with
      | some r =>
        rw [hfl] at hr
        simp only [] at hr
        obtain ⟨rest, q1, q2⟩ := f1 r hfl
        split at hr
        · cases hr
        · rename_i hst
          have hst : strays keep s1.loc (clr keep .undef 0 s1.tmps) = false := by simpa using hst
          have hg : gotoIn l (.inScope cb :: k) = some (.code rest :: .inScope cb :: k) := by simp [gotoIn, q1]
          exact .steps (harr _ hg) (.trans k1 (hSc keep H cb rest sb r hcb q2 _ ex s' hr d g1 a1 u1 w1 dfd (rel1.clear hst) m1 d1 b k mk hk))
      | none =>
        rw [hfl] at hr
        simp only [Option.some.injEq, Prod.mk.injEq] at hr
        obtain ⟨rfl, rfl⟩ := hr
        exact ⟨.goto l, a1, u1, w1, ⟨g1, k1, rel1, m1, eo, d1⟩, fun k' hk' => harr k' (by simp [gotoIn, f2 hfl, hk'])⟩
    | norm =>
      cases e <;> first | exact eo.elim | skip
      simp only [Option.some.injEq, Prod.mk.injEq] at hr
      obtain ⟨rfl, rfl⟩ := hr
      exact ⟨.normal, a1, u1, w1, ⟨g1, k1, rel1, m1, eo, d1⟩, Steps.trans harr (.one step_inScope)⟩
    | brk i =>
      cases e <;> first | exact eo.elim | skip
      simp only [Option.some.injEq, Prod.mk.injEq] at hr
      obtain ⟨rfl, rfl⟩ := hr
      exact ⟨_, a1, u1, w1, ⟨g1, k1, rel1, m1, eo, d1⟩, fun k' hk' => harr k' (by simp [exitTo, hk'])⟩
    | ret =>
      cases e <;> first | exact eo.elim | skip
      simp only [Option.some.injEq, Prod.mk.injEq] at hr
      obtain ⟨rfl, rfl⟩ := hr
      exact ⟨_, a1, u1, w1, ⟨g1, k1, rel1, m1, eo, d1⟩, harr⟩
    | pan v =>
      cases e <;> first | exact eo.elim | skip
      simp only [Option.some.injEq, Prod.mk.injEq] at hr
      obtain ⟨rfl, rfl⟩ := hr
      exact ⟨_, a1, u1, w1, ⟨g1, k1, rel1, m1, eo, d1⟩, harr⟩

theorem sim_succ {n : Nat} (hD : DrawOk P B) (hC : ∀ d, CallOk P B d (callN Pr Pg n)) (hS : SimAt P B Pr Pg n) (hL : LoopAt P B Pr Pg n) (hSc : ScopeAt P B Pr Pg n) : SimAt P B Pr Pg (n + 1) := by
  intro keep H c sc hc s ex s' hr d g a u w dfd h hm hdf b k mk hk
  cases c <;> simp only [cCode] at hc
  case skip =>
    cases hc
    simp only [run, Option.some.injEq, Prod.mk.injEq] at hr
    obtain ⟨rfl, rfl⟩ := hr
    exact ⟨.normal, a, u, w, ⟨g, .refl B d g w, h, hm, trivial, hdf⟩, .one step_skip⟩
  case label l =>
    cases hc
    simp only [run, Option.some.injEq, Prod.mk.injEq] at hr
    obtain ⟨rfl, rfl⟩ := hr
    exact ⟨.normal, a, u, w, ⟨g, .refl B d g w, h, hm, trivial, hdf⟩, .one step_label⟩
  case exit id =>
    cases hc
    simp only [run, Option.some.injEq, Prod.mk.injEq] at hr
    obtain ⟨rfl, rfl⟩ := hr
    exact ⟨.exit id, a, u, w, ⟨g, .refl B d g w, h, hm, rfl, hdf⟩, fun _ hk => .one (step_exit hk)⟩
  case goto l =>
    cases hc
    simp only [run, Option.some.injEq, Prod.mk.injEq] at hr
    obtain ⟨rfl, rfl⟩ := hr
    exact ⟨.goto l, a, u, w, ⟨g, .refl B d g w, h, hm, rfl, hdf⟩, fun _ hk => .one (step_goto hk)⟩
  case ret =>
    cases hc
    simp only [run, Option.some.injEq, Prod.mk.injEq] at hr
    obtain ⟨rfl, rfl⟩ := hr
    exact ⟨.ret, a, u, w, ⟨g, .refl B d g w, h, hm, trivial, hdf⟩, _, .one step_ret⟩
  case region id ops draw =>
    split at hc
    · rename_i l hl
      cases draw with
      | false =>
        simp only [Bool.false_eq_true, if_false, Option.some.injEq] at hc
        subst hc
        simp only [run, runReg] at hr
        have := seq_ops (P := P) (H := H) (ops := ops) (dfd := dfd) (hC (d + 1)) ops.toList l 0 g s a u w rfl hl hr h hm hdf
        rw [Nat.sub_zero, ← List.range_eq_range'] at this
        exact .steps (.one step_region) (regTo_arrives this b k hk)
      | true =>
        simp only [if_true] at hc
        split at hc
        · rename_i hok
          cases hc
          simp only [run] at hr
          rw [Bool.and_eq_true] at hok
          have hr' := hD (callN Pr Pg n) d (hC (d + 1)) H ops l s ex s' hl hok.1 hok.2 hr g a u { w with drawn := w.drawn + 1 } dfd (h.drawn _) hm hdf (w.tape w.drawn (.order b.fn id))
          exact .steps (.one step_region_draw) (.trans (.drawn (w.drawn + 1)) (regTo_arrives hr' b k hk))
        · cases hc
    · cases hc
  case seq x y =>
    split at hc
    · rename_i sx sy h1 h2
      cases hc
      simp only [run] at hr
      generalize hx : run Pr Pg n keep sx s = r1 at hr
      cases r1 with
      | none => simp at hr
      | some r1 =>
        obtain ⟨ex1, s1⟩ := r1
        obtain ⟨e, a1, u1, w1, hp, harr⟩ := hS keep H x sx h1 _ _ _ hx d g a u w dfd h hm hdf b (.code y :: k) mk hk
        obtain ⟨g1, k1, rel1, m1, eo, d1⟩ := hp
        cases ex1 with
        | norm =>
          cases e <;> first | exact eo.elim | skip
          simp only [] at hr
          exact .steps (.head step_seq harr) (.trans k1 (hS keep H y sy h2 s1 ex s' hr d g1 a1 u1 w1 dfd rel1 m1 d1 b k mk hk))
        | _ =>
          simp only [Option.some.injEq, Prod.mk.injEq] at hr
          obtain ⟨rfl, rfl⟩ := hr
          cases e <;> first | exact eo.elim | exact ⟨_, a1, u1, w1, ⟨g1, k1, rel1, m1, eo, d1⟩, .of_steps (.one step_seq) (.pass (x := .code y) rfl (fun _ _ => .inl (by simp)) harr)⟩
    · cases hc
  case cond v x y =>
    split at hc
    · rename_i v' sx sy h0 h1 h2
      cases hc
      simp only [run] at hr
      obtain ⟨L, R, hf⟩ := h.fr
      have hev : ∀ t, ev s v' = .bool t → a.eval v = .bool t := by
        intro t ht
        have := (opd_rv h0 hf ht (by simp)).1
        rw [rho_eval] at this
        generalize a.eval v = q at this
        cases this; rfl
      split at hr
      · rename_i ht
        exact .steps (.one (step_cond (hev true ht))) (hS keep H x sx h1 s ex s' hr d g a u w dfd h hm hdf b k mk hk)
      · rename_i ht
        exact .steps (.one (step_cond (hev false ht))) (hS keep H y sy h2 s ex s' hr d g a u w dfd h hm hdf b k mk hk)
      · cases hr
    · cases hc
  case block id x =>
    rw [Option.map_eq_some_iff] at hc
    obtain ⟨sx, h1, rfl⟩ := hc
    simp only [run] at hr
    generalize hx : run Pr Pg n keep sx s = r1 at hr
    cases r1 with
    | none => simp at hr
    | some r1 =>
      obtain ⟨ex1, s1⟩ := r1
      obtain ⟨e, a1, u1, w1, hp, harr⟩ := hS keep H x sx h1 _ _ _ hx d g a u w dfd h hm hdf b (.inBlock id :: k) mk hk
      obtain ⟨g1, k1, rel1, m1, eo, d1⟩ := hp
      cases ex1 with
      | brk i =>
        cases e <;> first | exact eo.elim | skip
        rename_i i'
        have e' : i = i' := eo
        subst e'
        simp only [] at hr
        split at hr
        · rename_i hii
          subst hii
          simp only [Option.some.injEq, Prod.mk.injEq] at hr
          obtain ⟨rfl, rfl⟩ := hr
          exact ⟨.normal, a1, u1, w1, ⟨g1, k1, rel1, m1, trivial, d1⟩, .head step_block (harr k (by simp [exitTo]))⟩
        · rename_i hii
          simp only [Option.some.injEq, Prod.mk.injEq] at hr
          obtain ⟨rfl, rfl⟩ := hr
          refine ⟨.exit i, a1, u1, w1, ⟨g1, k1, rel1, m1, rfl, d1⟩, fun k' hk' => .head step_block (harr k' ?_)⟩
          have : (id == i) = false := by simp; exact fun h => hii h.symm
          simp [exitTo, this, hk']
      | norm =>
        cases e <;> first | exact eo.elim | skip
        simp only [Option.some.injEq, Prod.mk.injEq] at hr
        obtain ⟨rfl, rfl⟩ := hr
        exact ⟨.normal, a1, u1, w1, ⟨g1, k1, rel1, m1, eo, d1⟩, .head step_block (Steps.trans harr (.one step_inBlock))⟩
      | goto l =>
        cases e <;> first | exact eo.elim | skip
        simp only [Option.some.injEq, Prod.mk.injEq] at hr
        obtain ⟨rfl, rfl⟩ := hr
        exact ⟨_, a1, u1, w1, ⟨g1, k1, rel1, m1, eo, d1⟩, fun k' hk' => .head step_block (harr k' (by simp [gotoIn, hk']))⟩
      | ret =>
        cases e <;> first | exact eo.elim | skip
        simp only [Option.some.injEq, Prod.mk.injEq] at hr
        obtain ⟨rfl, rfl⟩ := hr
        exact ⟨_, a1, u1, w1, ⟨g1, k1, rel1, m1, eo, d1⟩, .of_steps (.one step_block) harr⟩
      | pan v =>
        cases e <;> first | exact eo.elim | skip
        simp only [Option.some.injEq, Prod.mk.injEq] at hr
        obtain ⟨rfl, rfl⟩ := hr
        exact ⟨_, a1, u1, w1, ⟨g1, k1, rel1, m1, eo, d1⟩, .of_steps (.one step_block) harr⟩
  case loop x =>
    rw [Option.map_eq_some_iff] at hc
    obtain ⟨sx, h1, rfl⟩ := hc
    exact .steps (.one step_loop) (loop_succ hS hL keep H x sx h1 s ex s' hr d g a u w dfd h hm hdf b k mk hk)
  case scope x =>
    rw [Option.map_eq_some_iff] at hc
    obtain ⟨sx, h1, rfl⟩ := hc
    simp only [run] at hr
    exact .steps (.one step_scope) (hSc keep H x x sx sx h1 h1 s ex s' hr d g a u w dfd h hm hdf b k mk hk)
  all_goals cases hc

end
end Go.PM

/- Functions: coming in, and what they hand back. -/
namespace Go.PM
section
variable {P : Program} {H : Hints} {B d : Nat} {g : G} {s : St} {w : World} {a : Act} {u : FrameMode} {tm : Array Value} {L : Nat → Option Nat} {R : Rm} {hp : List HObj}

/-! ### coming in -/

theorem relabel_in : ∀ (l : List Nat) (g : G), Inv B g hp w → ∃ g1, Keep B d g w g1 w ∧ Inv B g1 hp w ∧ (∀ b o i, i ∈ l → g.K b o = .ret d i → g1.K b o = .tok d i) ∧ (∀ b o e j, g.K b o = .tok e j → g1.K b o = .tok e j)
  | [], g, hi => ⟨g, .refl B d g w, hi, fun b o i h => by simp at h, fun b o e j h => h⟩
  | n :: l, g, hi => by
    obtain ⟨g1, k1, i1, h1, h2⟩ := relabel_in l (g.mv (.ret d n) (.tok d n)) (hi.mv (by simp) (by simp) (by simp) (by simp) (by simp) (by simp))
    refine ⟨g1, (Keep.mv (by simp) (by simp [Outer])).trans k1, i1, fun b o i hm hk => ?_, fun b o e j hk => h2 b o e j (by rw [mv_other (by rw [hk]; simp)]; exact hk)⟩
    by_cases e : i = n
    · subst e
      exact h2 b o d i (mv_same hk)
    · refine h1 b o i ?_ (by rw [mv_other (by rw [hk]; simp [e])]; exact hk)
      simpa [e] using hm

theorem enterA_ok {pown : List Nat} : ∀ {l : List AV} {i : Nat} {q : List AV}, enterA pown i l = some q → q.length = l.length ∧
    ∀ (j : Nat) a, q[j]? = some a → ∃ b, l[j]? = some b ∧ ((pown.contains (i + j) = true ∧ ∃ sz es, b = .sl sz es .flag ∧ a = .sl sz es (.tok (i + j))) ∨ (pown.contains (i + j) = false ∧ a = b.nrm))
  | [], i, q, h => by
    simp only [enterA, Option.some.injEq] at h
    subst h
    exact ⟨rfl, fun j a e => by simp at e⟩
  | v :: l, i, q, h => by
    simp only [enterA] at h
    split at h
    · rename_i q' hq
      obtain ⟨h1, h2⟩ := enterA_ok hq
      have step : ∀ x, ((pown.contains i = true ∧ ∃ sz es, v = .sl sz es .flag ∧ x = .sl sz es (.tok i)) ∨ (pown.contains i = false ∧ x = v.nrm)) → q = x :: q' →
          q.length = (v :: l).length ∧ ∀ (j : Nat) a, q[j]? = some a → ∃ b, (v :: l)[j]? = some b ∧ ((pown.contains (i + j) = true ∧ ∃ sz es, b = .sl sz es .flag ∧ a = .sl sz es (.tok (i + j))) ∨ (pown.contains (i + j) = false ∧ a = b.nrm)) := by
        intro x hx e
        subst e
        refine ⟨by simp [h1], fun j a e => ?_⟩
        cases j with
        | zero => simp at e; subst e; exact ⟨v, rfl, by simpa using hx⟩
        | succ j =>
          simp at e
          have := h2 j a e
          rw [show i + 1 + j = i + (j + 1) by omega] at this
          exact this
      split at h
      · rename_i hc
        split at h
        · cases h
          exact step _ (.inl ⟨hc, _, _, rfl, rfl⟩) rfl
        · cases h
      · rename_i hc
        cases h
        exact step _ (.inr ⟨by simpa using hc, rfl⟩) rfl
    · cases h

theorem enter_rel {F : SF} {args : List AV} {pan : Option (Option AV)} {heap : List HObj} {s0 : St} {argv : Array Value} (h : enter F args pan heap = some s0) (hi : Inv B g heap w) (hA : ArgsOk g d args argv) :
    ∃ g1, Keep B d g w g1 w ∧ Rel B d g1 s0 { tmps := argv ++ Array.replicate (F.nt - argv.size) undef, defers := [] } w ∧ s0.pan = pan ∧ s0.recd = false := by
  unfold enter at h
  split at h
  · rename_i l hl
    split at h
    · rename_i hcond
      obtain ⟨hnt, hpo⟩ := hcond
      cases h
      obtain ⟨l1, l2⟩ := enterA_ok hl
      obtain ⟨g1, k1, i1, r1, _⟩ := relabel_in (d := d) F.pown g hi
      obtain ⟨a1, a2⟩ := hA
      have hlen : l.length = argv.size := by omega
      let R : Rm := fun n => if n ∈ F.pown then (match args[n]?, argv[n]? with | some (.sl sz es .flag), some v => some (spareOf sz es.length v) | _, _ => some (0, 0, 0)) else none
      refine ⟨g1, k1, ⟨i1, ⟨fun _ => none, R, ?_⟩, trivial⟩, rfl, rfl⟩
      refine ⟨by simp [hlen], by simp; omega, fun t av v h1 h2 => ?_, fun t cs h1 => ?_, fun n b x e h1 o h2 h3 => ?_, fun n r h1 => ?_, fun n hn => ?_, fun n hn => ?_, fun t t' off h1 => ?_⟩
      · simp only [List.getElem?_append, Array.getElem?_append] at h1 h2
        by_cases ht : t < l.length
        · rw [if_pos ht] at h1
          rw [if_pos (by omega)] at h2
          obtain ⟨b, e1, e2⟩ := l2 t av h1
          obtain ⟨rv, rr⟩ := a2 t b v e1 h2
          rw [Nat.zero_add] at e2
          rcases e2 with ⟨hc, sz, es, rfl, rfl⟩ | ⟨hc, rfl⟩
          · refine ⟨(rv.mono k1.le).own, ?_⟩
            have hR : R t = some (spareOf sz es.length v) := by
              simp only [R]
              rw [if_pos (by simpa using hc), e1, h2]
            refine ⟨ht, fun b s e hr b' o len cap hv hlt => ?_⟩
            rw [hR] at hr
            subst hv
            simp only [spareOf, Option.some.injEq, Prod.mk.injEq] at hr
            obtain ⟨rfl, rfl, rfl⟩ := hr
            exact ⟨rfl, Nat.le_refl _, Nat.le_refl _⟩
          · exact RF_of (rv.mono k1.le).nrm (Tk2_nrm _ _)
        · rw [if_neg ht] at h1
          have : av = .undef := by
            have := List.mem_of_getElem? h1
            exact (List.mem_replicate.1 this).2
          subst this
          exact ⟨.undef _, trivial⟩
      · have := List.mem_of_getElem? h1
        have := (List.mem_replicate.1 this).2
        cases this
      · simp only [R] at h1
        split at h1
        · rename_i hm
          split at h1
          · rename_i sz es v e1 e2
            obtain ⟨rv, rr⟩ := a2 n _ v e1 e2
            simp only [Option.some.injEq] at h1
            cases rv with
            | sln _ _ a => cases a <;> simp [spareOf] at h1 <;> omega
            | sl _ _ _ bb oo cap val hc hz him hvv =>
              simp only [spareOf, Prod.mk.injEq] at h1
              obtain ⟨rfl, rfl, rfl⟩ := h1
              refine r1 _ _ _ hm ?_
              have := rr bb oo es.length cap rfl (o - oo) (by omega) (by omega)
              rwa [show oo + (o - oo) = o by omega] at this
          · simp only [Option.some.injEq, Prod.mk.injEq] at h1
            omega
        · cases h1
      · simp only [R] at h1
        split at h1
        · rename_i hm
          simp only [List.all_eq_true, decide_eq_true_eq] at hpo
          exact hpo n hm
        · cases h1
      · simp only [R]
        have hn' : n ∈ F.pown := hn
        rw [if_pos hn']
        split <;> rfl
      · simp only [List.all_eq_true, decide_eq_true_eq] at hpo
        exact hpo n hn
      · exfalso
        simp only [List.getElem?_append] at h1
        split at h1
        · obtain ⟨b, e1, e2⟩ := l2 t _ h1
          rcases e2 with ⟨_, sz, es, _, e⟩ | ⟨_, e⟩
          · cases e
          · exact nrm_nl b t' off e.symm
        · have := List.mem_of_getElem? h1
          have := (List.mem_replicate.1 this).2
          cases this
    · cases h
  · cases h

/-! ### results -/

def resM (tm : Array Value) : ResultVar → Sem Value
  | .tmp t => pure (tm.getD t undef)
  | .cell a t => do loadVar t (← asAddr (tm.getD a undef))

theorem getRess_ok (hi : Inv B g s.heap w) (hf : FR g d s tm w L R) : ∀ (rs : List ResultVar) (q : List SRes) (l : List AV), cRes P rs = some q → getRess s q = some l →
    ∃ vs : List Value, (rs.mapM (resM tm)).run P w = .ok vs w ∧ vs.length = l.length ∧ ∀ (j : Nat) a v, l[j]? = some a → vs[j]? = some v → RF g L R s.tk a v
  | [], q, l, hc, hg => by
    simp only [cRes, Option.some.injEq] at hc
    subst hc
    simp only [getRess, Option.some.injEq] at hg
    subst hg
    exact ⟨[], by simp, rfl, fun j a v e => by simp at e⟩
  | r :: rs, q, l, hc, hg => by
    -- the first, and the rest
    have step : ∀ (q0 : SRes) (q' : List SRes), q = q0 :: q' → cRes P rs = some q' →
        (∀ av, getRes s q0 = some av → ∃ v, (resM tm r).run P w = .ok v w ∧ RF g L R s.tk av v) →
        ∃ vs : List Value, ((r :: rs).mapM (resM tm)).run P w = .ok vs w ∧ vs.length = l.length ∧ ∀ (j : Nat) a v, l[j]? = some a → vs[j]? = some v → RF g L R s.tk a v := by
      intro q0 q' e hc' h0
      subst e
      simp only [getRess] at hg
      split at hg
      · rename_i av l' g1 g2
        cases hg
        obtain ⟨v, v1, v2⟩ := h0 av g1
        obtain ⟨vs, w1, w2, w3⟩ := getRess_ok hi hf rs q' l' hc' g2
        refine ⟨v :: vs, by simp [List.mapM_cons, v1, w1], by simp [w2], fun j a x e1 e2 => ?_⟩
        cases j with
        | zero => simp at e1 e2; subst e1; subst e2; exact v2
        | succ j => simp at e1 e2; exact w3 j a x e1 e2
      · cases hg
    cases r with
    | tmp t =>
      simp only [cRes, Option.map_eq_some_iff] at hc
      obtain ⟨q', hc, rfl⟩ := hc
      refine step _ q' rfl hc (fun av h => ?_)
      simp only [getRes] at h
      have hlt : t < tm.size := by rw [hf.sz]; exact (List.getElem?_eq_some_iff.1 h).1
      refine ⟨tm.getD t undef, by simp [resM], ?_⟩
      have := hf.tm t av _ h (Array.getElem?_eq_getElem hlt)
      simpa [Array.getD, hlt] using this
    | cell t ty =>
      simp only [cRes] at hc
      split at hc
      · rename_i ag i q' h1 h2 h3
        split at hc
        · rename_i h4
          cases hc
          refine step _ q' rfl h3 (fun av h => ?_)
          simp only [getRes] at h
          split at h
          · rename_i pa hpa
            have hlt : t < tm.size := by rw [hf.sz]; exact (List.getElem?_eq_some_iff.1 hpa).1
            have hrf := hf.tm t pa _ hpa (Array.getElem?_eq_getElem hlt)
            obtain ⟨v, b, o, r1, r2, r3, r4⟩ := load_rf h1 h2 h4 hrf h hi hf
            refine ⟨v, ?_, RF_of r3 r4⟩
            rw [r1] at r2
            have e : tm.getD t undef = .pointer (some ⟨b, o, none⟩) := by rw [← r1]; simp [Array.getD, hlt]
            simp only [resM, e, asAddr]
            simpa [Instr.loadAt, Instr.sureAddr] using r2
          · cases h
        · cases hc
      · cases hc

theorem RF.nrm1' {k : Nat} {x : AV} {v : Value} (h : RF g L R k x v) : RV g x.nrm1 v := by
  cases x <;> first | exact h.1.nrm1 | exact .undef _

theorem gives_ok (rown : List Nat) : ∀ (l : List AV) (vs : List Value) (i : Nat) (g : G) (R : Rm) (s : St) (out : List AV), gives rown s.live i l = some out → l.length = vs.length →
    (∀ (j : Nat) a v, l[j]? = some a → vs[j]? = some v → RF g L R s.tk a v) → Inv B g hp w → FR g d s tm w L R →
    ∃ g', Keep B d g w g' w ∧ Inv B g' hp w ∧ out.length = l.length ∧ (∀ b o e j, g.K b o = .ret e j → g'.K b o = .ret e j) ∧
      ∀ (j : Nat) a v, out[j]? = some a → vs[j]? = some v → RV g' a v ∧ RetRoom g' d (i + j) a v ∧ ∀ ts, a ≠ .tup ts := by
  intro l
  induction l with
  | nil =>
    intro vs i g R s out h hl hr hi hf
    simp only [gives, Option.some.injEq] at h
    subst h
    exact ⟨g, .refl B d g w, hi, rfl, fun _ _ _ _ h => h, fun j a v h => by simp at h⟩
  | cons a l ih =>
    intro vs i g R s out h hl hr hi hf
    cases vs with
    | nil => simp at hl
    | cons v vs =>
      have h0 := hr 0 a v rfl rfl
      have hr' : ∀ (j : Nat) a v, l[j]? = some a → vs[j]? = some v → RF g L R s.tk a v := fun j a' v' p q => hr (j + 1) a' v' (by simpa using p) (by simpa using q)
      simp only [gives] at h
      split at h
      · rename_i x q hx hq
        cases h
        have fin : ∀ (g1 : G) (R1 : Rm) (s1 : St), gives rown s1.live (i + 1) l = some q → Keep B d g w g1 w → Inv B g1 hp w → FR g1 d s1 tm w L R1 →
            (∀ a v, RF g L R s.tk a v → RF g1 L R1 s1.tk a v) → (∀ b o e j, g.K b o = .ret e j → g1.K b o = .ret e j) → RV g1 x v → RetRoom g1 d i x v → (∀ ts, x ≠ .tup ts) →
            ∃ g', Keep B d g w g' w ∧ Inv B g' hp w ∧ (x :: q).length = (a :: l).length ∧ (∀ b o e j, g.K b o = .ret e j → g'.K b o = .ret e j) ∧
              ∀ (j : Nat) a v', (x :: q)[j]? = some a → (v :: vs)[j]? = some v' → RV g' a v' ∧ RetRoom g' d (i + j) a v' ∧ ∀ ts, a ≠ .tup ts := by
          intro g1 R1 s1 hq k1 i1 f1 hR1 hret rv rr nt
          obtain ⟨g', c1, c2, c3, c4, c5⟩ := ih vs (i + 1) g1 R1 s1 q hq (by simpa using hl) (fun j a v p q => hR1 a v (hr' j a v p q)) i1 f1
          refine ⟨g', k1.trans c1, c2, by simp [c3], fun b o e j hh => c4 b o e j (hret b o e j hh), fun j a' v' p q => ?_⟩
          cases j with
          | zero =>
            simp at p q
            subst p; subst q
            refine ⟨rv.mono c1.le, ?_, nt⟩
            cases x <;> first | exact trivial | skip
            rename_i sz es own
            cases own <;> first | exact trivial | skip
            exact fun b o len cap e k p1 p2 => c4 _ _ _ _ (rr b o len cap e k p1 p2)
          | succ j =>
            simp at p q
            have := c5 j a' v' p q
            rwa [show i + 1 + j = i + (j + 1) by omega] at this
        unfold giveA at hx
        cases hc : rown.contains i with
        | false =>
          rw [hc] at hx
          have hlive : gives rown s.live (i + 1) l = some q := by
            rw [← hq]; congr 1
            split
            · simp only [hc, Bool.false_eq_true, if_false]
            · rfl
          simp only [] at hx
          split at hx
          · cases hx
          · rename_i hnt
            cases hx
            refine fin g R s hlive (.refl B d g w) hi hf (fun a v h => h) (fun _ _ _ _ h => h) (RF.nrm1' h0) ?_ ?_
            · cases a <;> exact trivial
            · intro ts
              cases a <;> simp [AV.nrm1, AV.nrm0] <;> exact absurd rfl (hnt _)
        | true =>
          rw [hc] at hx
          simp only [] at hx
          split at hx
          · rename_i sz es o
            split at hx
            · rename_i hroom
              cases hx
              dsimp only at hq
              rw [if_pos hc] at hq
              obtain ⟨h01, h02⟩ := h0
              cases o with
              | none => simp [roomy] at hroom
              | flag => simp [roomy] at hroom
              | exact =>
                refine fin g R s hq (.refl B d g w) hi hf (fun a v h => h) (fun _ _ _ _ h => h) h01.own (fun b o len cap e k p1 p2 => ?_) (by intro ts e; cases e)
                have hh := h02 _ _ _ e
                subst hh
                cases h01 with
                | sln => cases e; omega
                | sl => omega
              | tok n =>
                have hn : n ∈ s.live := by simpa [roomy] using hroom
                refine fin (g.mv (.tok d n) (.ret d i)) (R.drop n) { s with live := unlive s.live (.tok n) } hq (.mv (by simp) (by simp [Outer])) (hi.mv (by simp) (by simp) (by simp) (by simp) (by simp) (by simp)) (hf.leave n _) (fun a v h => ?_) (fun b o e j h => ?_) ((h01.mono (mv_le (by simp))).own) (fun b o len cap e k p1 p2 => ?_) (by intro ts e; cases e)
                · refine (h.mono (mv_le (by simp))).sub (fun m r hm => .inl ?_) (Nat.le_refl _)
                  simp only [Rm.drop] at hm
                  split at hm
                  · cases hm
                  · exact hm
                · rw [mv_other (by rw [h]; simp)]; exact h
                · exact mv_same (room_cells hf hn h02 e p1 p2)
            · cases hx
          · cases hx
      · cases h

theorem results_ok {fn : Func} {F : SF} (hF : cRes P fn.results.toList = some F.res) {av : AV} (h : results F s = some av) (hi : Inv B g s.heap w) (hf : FR g d s tm w L R) :
    ∃ v g', (_root_.Go.results fn tm).run P w = .ok v w ∧ Keep B d g w g' w ∧ Inv B g' s.heap w ∧ ResOk g' d av v := by
  unfold results at h
  split at h
  · rename_i l hl
    obtain ⟨vs, v1, v2, v3⟩ := getRess_ok hi hf _ _ _ hF hl
    have hrun : (_root_.Go.results fn tm).run P w = .ok (if h : vs.toArray.size = 1 then vs.toArray[0] else .tuple vs.toArray) w := by
      have e : ∀ F : ResultVar → Sem Value, (∀ r, F r = resM tm r) → (fn.results.toList.mapM F).run P w = .ok vs w := by
        intro F hF
        rw [show F = resM tm from funext hF]
        exact v1
      unfold _root_.Go.results
      rw [Array.mapM_eq_mapM_toList]
      simp only [Sem.run_bind, map_eq_pure_bind]
      rw [e _ (fun r => by cases r <;> rfl)]
      simp
    split at h
    · rename_i x hg
      obtain ⟨g', c1, c2, c3, c4, c5⟩ := gives_ok F.rown l vs 0 g R s [x] hg v2.symm v3 hi hf
      cases h
      have hvl : vs.length = 1 := by simp at c3; omega
      obtain ⟨v, rfl⟩ := List.length_eq_one_iff.1 hvl
      refine ⟨v, g', by rw [hrun]; simp, c1, c2, ?_⟩
      obtain ⟨d1, d2, d3⟩ := c5 0 av v rfl rfl
      refine ⟨d1, ?_⟩
      split
      · exact absurd rfl (d3 _)
      · simpa using d2
    · rename_i out hne hg
      cases h
      obtain ⟨g', c1, c2, c3, c4, c5⟩ := gives_ok F.rown l vs 0 g R s out hg v2.symm v3 hi hf
      have hvl : vs.length ≠ 1 := by
        intro e
        have : out.length = 1 := by omega
        obtain ⟨x, rfl⟩ := List.length_eq_one_iff.1 this
        exact hne x rfl
      refine ⟨.tuple vs.toArray, g', by rw [hrun, dif_neg (by simpa using hvl)], c1, c2, ?_⟩
      refine ⟨.tup _ _ (by simp [c3, v2]) (fun j a v e1 e2 => (c5 j a v e1 (by simpa using e2)).1), fun j a v e1 e2 => ?_⟩
      have := (c5 j a v e1 (by simpa [tupArr] using e2)).2.1
      rwa [Nat.zero_add] at this
    · cases h
  · cases h

end
end Go.PM

/- Functions as a whole, at whatever depth: what the reading comes to, the machine comes to. -/
namespace Go.PM
section
variable {P : Program} {H : Hints} {B d : Nat} {g : G} {s : St} {w : World} {a : Act} {u : FrameMode} {tm : Array Value} {L : Nat → Option Nat} {R : Rm} {hp : List HObj}

def Tab (P : Program) (Pg : FuncId → Option SF) : Prop :=
  ∀ f F, Pg f = some F → ∃ fn H, P.funcs[f]? = some fn ∧ (fn.name == "runtime.NumGoroutine") = false ∧ cFunc P H fn = some F

theorem cFunc_ok {fn : Func} {F : SF} (h : cFunc P H fn = some F) : ∃ c, fn.body = some c ∧ cCode P H c = some F.body ∧ cRes P fn.results.toList = some F.res ∧ F.nt = fn.ntmps := by
  unfold cFunc at h
  split at h
  · rename_i c hb
    split at h
    · rename_i b r h1 h2
      cases h
      exact ⟨c, hb, h1, h2, rfl⟩
    · cases h
  · cases h

theorem callFunc_enter {f : FuncId} {fn : Func} {c : Code} (hf : P.funcs[f]? = some fn) (hname : (fn.name == "runtime.NumGoroutine") = false) (hb : fn.body = some c) (args : Array Value) (w : World) :
    (callFunc f args).run P w = .ok (.enter f args) w := by
  have h1 : fn.name ≠ "runtime.NumGoroutine" := by simpa using hname
  simp [callFunc, hf, h1, hb]

/-- how a frame stands while it runs its deferred calls -/
def UM (g : G) : Option AV → FrameMode → Prop
  | none, u => u = .returning
  | some p, u => ∃ v, u = .panicking [{ v, recovered := false }] ∧ RV g p v

theorem UM.run {p : Option AV} (h : UM g p u) : u ≠ .run := by
  cases p with
  | none => rw [show u = .returning from h]; simp
  | some p => obtain ⟨v, rfl, _⟩ := h; simp

theorem UM.mode {p : Option AV} (h : UM g p u) : ModeR g (some p) false u := by
  cases p <;> exact h

theorem UM.settle {p : Option AV} {r : Bool} (h : ModeR g (some p) r u) : UM g p (settle u) := by
  cases p with
  | none =>
    cases r with
    | false => rw [show u = .returning from h]; rfl
    | true => obtain ⟨v, rfl⟩ := h; rfl
  | some p =>
    cases r with
    | false => obtain ⟨v, rfl, hv⟩ := h; exact ⟨v, rfl, hv⟩
    | true => exact h.elim

variable {Pr : Prims} {Pg : FuncId → Option SF} {n : Nat} {fn : Func} {E : Ending → World → Prop}

/-- one deferred call -/
theorem deferred_ok (hT : Tab P Pg) (hS : SimAt P B Pr Pg n) {p : AV × List AV} {q : Deferred} {pan pan' : Option AV} {heap heap' : List HObj}
    (h : callD (fun F s => run Pr Pg n F.keep F.body s) Pg p.1 p.2 pan heap = some (pan', heap'))
    (hd : ∃ fn first caps fv cv av, p.1 = .fn fn first caps ∧ RV g p.1 (.func fn fv cv) ∧ q.target = .fn fn cv ∧ q.args = fv ++ av ∧ p.2.length = av.size ∧ ∀ (i : Nat) x v, p.2[i]? = some x → av[i]? = some v → RV g x v)
    (hi : Inv B g heap w) (hu : UM g pan u) :
    ∃ fv cap f args, q.target = .fn fv cap ∧ (invoke q.target q.args).run P w = .ok (.enter f args) w ∧
      CallsD P f args u w fun e u' w' => ∃ v, e = .returned v ∧ ∃ g', Keep B d g w g' w' ∧ Inv B g' heap' w' ∧ UM g' pan' (settle u') := by
  obtain ⟨f0, first, caps, fv, cv, av, e1, e2, e3, e4, e5, e6⟩ := hd
  rw [e1] at h e2
  unfold callD at h
  split at h
  · rename_i gf first' caps' e
    cases e
    split at h
    · rename_i F hF
      obtain ⟨fn2, H2, t1, t2, t3⟩ := hT _ _ hF
      obtain ⟨c, b1, b2, b3, b4⟩ := cFunc_ok t3
      split at h
      · rename_i s0 hent
        refine ⟨.func gf, cv, gf, (fv ++ av) ++ cv, e3, ?_, ?_⟩
        · rw [e3, e4]
          simp only [invoke]
          exact callFunc_enter t1 t2 b1 _ _
        · have hA : ArgsOk g d (nrms (first ++ p.2 ++ caps)) (fv ++ av ++ cv) := by
            cases e2 with
            | fn _ _ _ _ _ q1 q2 q3 q4 =>
              have := args_split (d := d) (as_ := nrms p.2) (vs := av.toList) q1 q2 (by simpa [nrms] using e5) q3 q4 (fun j x v z1 z2 => by
                simp only [nrms, List.getElem?_map, Option.map_eq_some_iff] at z1
                obtain ⟨y, z1, rfl⟩ := z1
                exact ⟨(e6 j y v z1 (by simpa using z2)).nrm, .nrm _ _⟩)
              simpa [nrms] using this
          obtain ⟨g1, k1, rel, p1, p2⟩ := enter_rel hent hi hA
          rw [b4] at rel
          -- what the body comes to
          have key : ∀ ex s1, run Pr Pg n F.keep F.body s0 = some (ex, s1) → (ex = .norm ∨ ex = .ret) → (s1.defers.isEmpty && (results F s1).isSome) = true → s1.pan = some pan' → s1.heap = heap' →
              CallsD P gf (fv ++ av ++ cv) u w fun e u' w' => ∃ v, e = .returned v ∧ ∃ g', Keep B d g w g' w' ∧ Inv B g' heap' w' ∧ UM g' pan' (Go.settle u') := by
            intro ex s1 hrun hex hend hpan hheap
            simp only [Bool.and_eq_true, List.isEmpty_iff] at hend
            obtain ⟨hde, hres⟩ := hend
            obtain ⟨ro, hro⟩ := Option.isSome_iff_exists.1 hres
            refine callsD_of_wpS t1 b1 (fun c₀ cs hmode b k hbk hbr => ?_)
            have hk : KO b (fun u => ({ c₀ with mode := u } : Frame) :: cs) true := ⟨hbk, hbr, c₀, cs, rfl⟩
            have hm : ModeR g1 s0.pan s0.recd u := by rw [p1, p2]; exact (UM.mode hu).mono k1.le
            obtain ⟨e, a', u', w', ⟨g2, k2, rel2, m2, eo, _⟩, harr⟩ := hS F.keep H2 c F.body b2 s0 ex s1 hrun d g1 _ u w true rel hm (by rw [p1]; rfl) b k _ hk
            have hcs : ({ c₀ with mode := u } : Frame) :: cs = c₀ :: cs := by subst hmode; rfl
            simp only [hcs] at harr
            have hfin : a'.defers = [] ∧ ∃ u'', (({ c₀ with mode := u' } : Frame) :: cs) = ({ c₀ with mode := u'' } : Frame) :: cs ∧ ∃ v, (_root_.Go.results fn2 a'.tmps).run P w' = .ok v w' ∧
                (∃ v', Ending.returned v = .returned v' ∧ ∃ g', Keep B d g w g' w' ∧ Inv B g' heap' w' ∧ UM g' pan' (Go.settle u'')) := by
              obtain ⟨L, R, f2⟩ := rel2.fr
              obtain ⟨v, _, r1, _⟩ := results_ok b3 hro rel2.inv f2
              have hdf := rel2.df
              rw [hde] at hdf
              refine ⟨?_, u', rfl, v, r1, v, rfl, g2, k1.trans k2, hheap ▸ rel2.inv, UM.settle (r := s1.recd) (by rw [← hpan]; exact m2)⟩
              cases hdd : a'.defers with
              | nil => rfl
              | cons x xs => rw [hdd] at hdf; exact hdf.elim
            rcases hex with rfl | rfl
            · cases e <;> first | exact eo.elim | exact ⟨.normal, a', _, w', hfin, harr⟩
            · cases e <;> first | exact eo.elim | exact ⟨.ret, a', _, w', hfin, harr⟩
          split at h
          · rename_i s1 hrun
            split at h
            · rename_i hend
              rw [Option.map_eq_some_iff] at h
              obtain ⟨pp, h1, h2⟩ := h
              cases h2
              exact key _ s1 hrun (.inl rfl) hend h1 rfl
            · cases h
          · rename_i s1 hrun
            split at h
            · rename_i hend
              rw [Option.map_eq_some_iff] at h
              obtain ⟨pp, h1, h2⟩ := h
              cases h2
              exact key _ s1 hrun (.inr rfl) hend h1 rfl
            · cases h
          · cases h
      · cases h
    · cases h
  · cases h

theorem defers_ok (hT : Tab P Pg) (hS : SimAt P B Pr Pg n) {tmps : Array Value} {fin : Option AV} {heap' : List HObj} : ∀ (ds : List (AV × List AV)) (dds : List Deferred) (g : G) (heap : List HObj) (w : World) (pan : Option AV) (u : FrameMode),
    runDefers (fun F s => run Pr Pg n F.keep F.body s) Pg ds pan heap = some (fin, heap') → DF g ds dds → Inv B g heap w → UM g pan u →
    (∀ g' w' u', Keep B d g w g' w' → Inv B g' heap' w' → UM g' fin u' → Leaves P fn tmps E [] u' w') → Leaves P fn tmps E dds u w
  | [], dds, g, heap, w, pan, u, h, hd, hi, hu, hE => by
    simp only [runDefers, Option.some.injEq, Prod.mk.injEq] at h
    obtain ⟨rfl, rfl⟩ := h
    cases dds with
    | nil => exact hE g w u (.refl B d g w) hi hu
    | cons x xs => exact hd.elim
  | p :: r, dds, g, heap, w, pan, u, h, hd, hi, hu, hE => by
    cases dds with
    | nil => exact hd.elim
    | cons q dds =>
      obtain ⟨hd1, hd2⟩ := hd
      obtain ⟨pf, pa⟩ := p
      simp only [runDefers] at h
      split at h
      · rename_i pan' h1 hcd
        obtain ⟨fv, cap, f, args, t1, t2, t3⟩ := deferred_ok (d := d) (p := (pf, pa)) hT hS hcd hd1 hi hu
        refine ⟨hu.run, fv, cap, f, args, t1, t2, t3.mono fun e u' w' he => ?_⟩
        obtain ⟨v, rfl, g', k', i', um⟩ := he
        exact defers_ok hT hS r dds g' h1 w' pan' (Go.settle u') h (hd2.mono k'.le) i' um (fun g2 w2 u2 k2 i2 um2 => hE g2 w2 u2 (k'.trans k2) i2 um2)
      · cases h

/-- all calls at one count of rounds -/
theorem call_ok (hT : Tab P Pg) (hPr : ∀ d, CallOk P B d (fun f args heap => match Pr f with | some p => p args heap | none => none)) (hS : SimAt P B Pr Pg n) (d : Nat) : CallOk P B d (callN Pr Pg n) := by
  intro f args heap out heap' h g w argv hi hA
  unfold callN at h
  cases hpr : Pr f with
  | some p =>
    rw [hpr] at h
    exact hPr d f args heap out heap' (by simp only [hpr]; exact h) g w argv hi hA
  | none =>
    rw [hpr] at h
    simp only [runBody] at h
    split at h
    · rename_i F hF
      obtain ⟨fn, H2, t1, t2, t3⟩ := hT _ _ hF
      obtain ⟨c, b1, b2, b3, b4⟩ := cFunc_ok t3
      split at h
      · rename_i s0 hent
        obtain ⟨g1, k1, rel, p1, p2⟩ := enter_rel hent hi hA
        rw [b4] at rel
        refine .inl ⟨f, argv, callFunc_enter t1 t2 b1 _ _, calls_of_wp_defers t1 b1 (fun b k cs => ?_)⟩
        have hk : KO b (fun _ => cs) false := ⟨cs, rfl⟩
        -- the end
        have fin : ∀ (s1 : St) (pan : Option AV) (g2 : G) (a' : Act) (w' : World) (u : FrameMode), finish (fun F s => run Pr Pg n F.keep F.body s) Pg F s1 pan = some (out, heap') → Keep B d g w g2 w' → Rel B d g2 s1 a' w' → UM g2 pan u →
            Leaves P fn a'.tmps (fun e w' => ∃ g', Keep B d g w g' w' ∧ Inv B g' heap' w' ∧ EndOk g' d out e) a'.defers u w' := by
          intro s1 pan g2 a' w' u hfi k2 rel2 um
          unfold finish at hfi
          obtain ⟨L, R, f2⟩ := rel2.fr
          split at hfi
          · rename_i h3 hrd
            rw [Option.map_eq_some_iff] at hfi
            obtain ⟨rv, hres, e⟩ := hfi
            cases e
            refine defers_ok (d := d + 1) hT hS s1.defers a'.defers g2 s1.heap w' pan u hrd rel2.df rel2.inv um (fun g3 w3 u3 k3 i3 um3 => ?_)
            have e3 : u3 = .returning := um3
            subst e3
            obtain ⟨v, g4, r1, r2, r3, r4⟩ := results_ok (s := { s1 with heap := heap' }) b3 hres i3 ((f2.keep (Nat.lt_succ_self d) k3).heap _ rfl rfl rfl rfl)
            exact ⟨v, r1, g4, (k2.trans (k3.mono (Nat.le_succ d))).trans r2, r3, r4⟩
          · rename_i p h3 hrd
            cases hfi
            refine defers_ok (d := d + 1) hT hS s1.defers a'.defers g2 s1.heap w' pan u hrd rel2.df rel2.inv um (fun g3 w3 u3 k3 i3 um3 => ?_)
            obtain ⟨x, rfl, hx⟩ := um3
            exact ⟨g3, k2.trans (k3.mono (Nat.le_succ d)), i3, x, rfl, hx⟩
          · cases hfi
        have body : ∀ ex s1, run Pr Pg n F.keep F.body s0 = some (ex, s1) → Done P B d false g w ex s1 b k (fun _ => cs) (lone (b.at { tmps := argv ++ Array.replicate (fn.ntmps - argv.size) undef, defers := [] } (.code c :: k)) cs w) := by
          intro ex s1 hrun
          exact .trans k1 (hS F.keep H2 c F.body b2 s0 ex s1 hrun d g1 _ .run w false rel (by rw [p1]; trivial) (by rw [p1]; rfl) b k _ hk)
        split at h
        · rename_i s1 hrun
          obtain ⟨e, a', u', w', ⟨g2, k2, rel2, m2, eo, _⟩, harr⟩ := body _ _ hrun
          cases e <;> first | exact eo.elim | exact ⟨.normal, a', w', fin s1 none g2 a' w' .returning h k2 rel2 rfl, harr⟩
        · rename_i s1 hrun
          obtain ⟨e, a', u', w', ⟨g2, k2, rel2, m2, eo, _⟩, harr⟩ := body _ _ hrun
          cases e <;> first | exact eo.elim | exact ⟨.ret, a', w', fin s1 none g2 a' w' .returning h k2 rel2 rfl, harr⟩
        · rename_i v s1 hrun
          obtain ⟨e, a', u', w', ⟨g2, k2, rel2, m2, eo, _⟩, harr⟩ := body _ _ hrun
          cases e <;> first | exact eo.elim | skip
          obtain ⟨x, rfl, hx⟩ := eo
          exact ⟨.panic _, a', w', fin s1 (some v) g2 a' w' _ h k2 rel2 ⟨x, rfl, hx⟩, harr⟩
        · cases h
      · cases h
    · cases h

theorem sound (hD : DrawOk P B) (hT : Tab P Pg) (hPr : ∀ d, CallOk P B d (fun f args heap => match Pr f with | some p => p args heap | none => none)) :
    ∀ n, (SimAt P B Pr Pg n ∧ LoopAt P B Pr Pg n ∧ ScopeAt P B Pr Pg n) ∧ ∀ d, CallOk P B d (callN Pr Pg n)
  | 0 => ⟨sim_zero, call_ok hT hPr sim_zero.1⟩
  | n + 1 => by
    obtain ⟨⟨h1, h2, h3⟩, h4⟩ := sound hD hT hPr n
    have h := sim_succ hD h4 h1 h2 h3
    exact ⟨⟨h, loop_succ h1 h2, scope_succ h1 h3⟩, call_ok hT hPr h⟩

end
end Go.PM
