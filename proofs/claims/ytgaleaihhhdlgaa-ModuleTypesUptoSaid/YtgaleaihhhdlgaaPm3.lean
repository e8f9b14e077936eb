/- One operation of the machine against one of the reading: local variables, structs, loads and stores of local places. -/
import Derived.Test.YtgaleaihhhdlgaaPm2

set_option linter.unusedVariables false
set_option linter.unusedSimpArgs false

namespace Go.PM
section
variable {P : Program} {H : Hints} {B d : Nat} {g : G} {s : St} {tm : Array Value} {w : World} {L : Nat → Option Nat} {R : Rm}

theorem newVar_run (t : TypeId) (v : Value) (w : World) : (newVar t v).run P w = .ok ⟨w.heap.size, 0, none⟩ (w.alloc (.cells v.cells t)) := by
  simp only [newVar, newRow, Sem.run_bind, run_newObj, Result.andThen_ok, Sem.run_pure]
  rfl

/-- a new local variable: the reading's side -/
theorem box_good (hi : Inv B g s.heap w) (hf : FR g d s tm w L R) {t : Nat} (hl : s.loc[t]? = some none) (v : Value) (ty : TypeId) {cs : List AV} (hlen : cs.length = v.cells.size)
    (hr : ∀ (i : Nat) c x, cs[i]? = some c → v.cells[i]? = some x → RV g c x ∧ Tk R s.tk c x) :
    Good B d g w { s with loc := s.loc.set t (some cs) } tm (.lref t 0) (.pointer (some ⟨w.heap.size, 0, none⟩)) (w.alloc (.cells v.cells ty)) := by
  obtain ⟨g', L', h1, h2, h3, h4, h5⟩ := hf.box hi hl v.cells ty hlen hr
  exact ⟨g', L', R, h1, h2, h3, ⟨_, h4, rfl⟩, by intro t' o' e; cases e; exact h5⟩

theorem op_allocL {o : Oper} {e : TypeId} {z : List AV} {t : Nat} (ho : o.op = .alloc e) (hz : zeroC P e = some z) (hl : s.loc[t]? = some none) (hi : Inv B g s.heap w) (hf : FR g d s tm w L R) :
    ∃ v w', (execOp (rho tm) o).run P w = .ok (.value v) w' ∧ Good B d g w { s with loc := s.loc.set t (some z) } tm (.lref t 0) v w' := by
  obtain ⟨i, v, h1, h2, h3, h4⟩ := zeroC_ok hz
  obtain ⟨h5, h6⟩ := mts_get (g := g) (R := R) (k := s.tk) h3
  refine ⟨_, _, ?_, box_good hi hf hl v e (by simpa using h5) fun i c x e1 e2 => ?_⟩
  · simp [execOp, ho, Instr.alloc, zeroValue, typeInfo, h1, h2, newVar_run]
  · have := h6 i c x e1 (by simpa using e2)
    exact ⟨this.1, this.2.1⟩

theorem op_boxL {o : Oper} {e : TypeId} {x : Operand} {a : Opd} {t : Nat} (ho : o.op = .box e x) (hx : cOpd P e x = some a) (h0 : 0 < (ev s a).cells.length) (hl : s.loc[t]? = some none)
    (hi : Inv B g s.heap w) (hf : FR g d s tm w L R) :
    ∃ v w', (execOp (rho tm) o).run P w = .ok (.value v) w' ∧ Good B d g w { s with loc := s.loc.set t (some ((ev s a).cells.map AV.part)) } tm (.lref t 0) v w' := by
  obtain ⟨h1, h2⟩ := cells_ok (opd_ok hx hf).1 h0
  refine ⟨_, _, ?_, box_good hi hf hl (rho tm x) e (by simpa using h1) fun i c y e1 e2 => ?_⟩
  · simp [execOp, ho, Instr.box, newVar_run]
  · simp only [List.getElem?_map, Option.map_eq_some_iff] at e1
    obtain ⟨c', e1, rfl⟩ := e1
    exact h2 i c' y e1 e2

/-! ### structs by their parts -/

/-- cells of a value that is being made -/
def CRs (g : G) (R : Rm) (k : Nat) (cs : List AV) (vs : Array Value) : Prop :=
  cs.length = vs.size ∧ ∀ (i : Nat) c v, cs[i]? = some c → vs[i]? = some v → RV g c v ∧ Tk R k c v

theorem foldl_set (off : Nat) : ∀ (vs : List Value) (n : Nat) (cs : Array Value), off + n + vs.length ≤ cs.size →
    ((vs.zipIdx n).foldl (fun (cs : Array Value) p => cs.setIfInBounds (off + p.2) p.1) cs).size = cs.size ∧
    ∀ j, ((vs.zipIdx n).foldl (fun (cs : Array Value) p => cs.setIfInBounds (off + p.2) p.1) cs)[j]? = if off + n ≤ j ∧ j < off + n + vs.length then vs[j - (off + n)]? else cs[j]?
  | [], n, cs, _ => ⟨by simp, fun j => by simp; intro h1 h2; omega⟩
  | v :: vs, n, cs, h => by
    simp only [List.length_cons] at h
    simp only [List.zipIdx_cons, List.foldl_cons]
    obtain ⟨h1, h2⟩ := foldl_set off vs (n + 1) (cs.setIfInBounds (off + n) v) (by simp; omega)
    refine ⟨by rw [h1]; simp, fun j => ?_⟩
    rw [h2 j]
    by_cases e : j = off + n
    · subst e
      rw [if_neg (by omega), if_pos (by simp)]
      simp [show off + n < cs.size by omega]
    · by_cases e2 : off + (n + 1) ≤ j ∧ j < off + (n + 1) + vs.length
      · rw [if_pos e2, if_pos (by simp; omega)]
        rw [show j - (off + n) = (j - (off + (n + 1))) + 1 by omega]
        simp
      · rw [if_neg e2, if_neg (by simp; omega)]
        simp [Array.getElem?_setIfInBounds, Ne.symm e]

theorem setc_get {cs : List AV} {off : Nat} {vs cs' : List AV} (h : setc cs off vs = some cs') : off + vs.length ≤ cs.length ∧ cs'.length = cs.length ∧
    ∀ j, cs'[j]? = if off ≤ j ∧ j < off + vs.length then vs[j - off]? else cs[j]? := by
  unfold setc at h
  split at h
  · rename_i hle
    cases h
    refine ⟨hle, by simp; omega, fun j => ?_⟩
    by_cases h1 : j < off
    · rw [if_neg (by omega), List.append_assoc, List.getElem?_append_left (by simp; omega), List.getElem?_take, if_pos h1]
    · by_cases h2 : j < off + vs.length
      · rw [if_pos (by omega), List.append_assoc, List.getElem?_append_right (by simp; omega), List.getElem?_append_left (by simp; omega)]
        simp [Nat.min_eq_left (show off ≤ cs.length by omega)]
      · rw [if_neg (by omega), List.getElem?_append_right (by simp; omega), List.getElem?_drop]
        congr 1
        simp [Nat.min_eq_left (show off ≤ cs.length by omega)]
        omega
  · cases h

/-- one part goes in -/
theorem CRs.set {k : Nat} {cs : List AV} {vs : Array Value} (h : CRs g R k cs vs) {off : Nat} {c2 : List AV} {v2 : Array Value} (h2 : CRs g R k c2 v2) {cs' : List AV} (hs : setc cs off c2 = some cs') :
    off + v2.size ≤ vs.size ∧ CRs g R k cs' (v2.toList.zipIdx.foldl (fun (cs : Array Value) p => cs.setIfInBounds (off + p.2) p.1) vs) := by
  obtain ⟨e1, e2, e3⟩ := setc_get hs
  have hle : off + v2.size ≤ vs.size := by have := h.1; have := h2.1; omega
  obtain ⟨f1, f2⟩ := foldl_set off v2.toList 0 vs (by simpa using hle)
  refine ⟨hle, by rw [e2, f1]; exact h.1, fun i c v q1 q2 => ?_⟩
  rw [e3] at q1
  rw [f2] at q2
  by_cases hin : off ≤ i ∧ i < off + c2.length
  · rw [if_pos hin] at q1
    rw [if_pos (by have := h2.1; simp; omega)] at q2
    exact h2.2 (i - off) c v q1 (by simpa using q2)
  · rw [if_neg hin] at q1
    rw [if_neg (by have := h2.1; simp; omega)] at q2
    exact h.2 i c v q1 q2

theorem part_cells {k : Nat} {a : AV} {v : Value} (h : RF g L R k a v) (h0 : 0 < a.cells.length) : CRs g R k (a.cells.map AV.part) v.cells := by
  obtain ⟨h1, h2⟩ := cells_ok h h0
  refine ⟨by simpa using h1, fun i c x e1 e2 => ?_⟩
  simp only [List.getElem?_map, Option.map_eq_some_iff] at e1
  obtain ⟨c', e1, rfl⟩ := e1
  exact h2 i c' x e1 e2

theorem fill_ok {fs : Array Field} {places : Array (Nat × Nat)} (hp : ∀ (i : Nat) f, fs[i]? = some f → ∃ inf, P.info? f.type = some inf ∧ places[i]? = some (f.offset, inf.size)) (hf : FR g d s tm w L R) :
    ∀ (ps : List (Nat × Operand)) (q : List (Nat × Nat × Opd)) (cs : List AV) (vs : Array Value) (cs' : List AV), cParts P fs ps = some q → CRs g R s.tk cs vs →
      fillA cs (q.map fun p => (p.1, p.2.1, ev s p.2.2)) = some cs' →
      ∃ vs', Instr.fill (places[·]?) vs (ps.map fun p => (p.1, rho tm p.2)) = some vs' ∧ CRs g R s.tk cs' vs' := by
  intro ps
  induction ps with
  | nil =>
    intro q cs vs cs' hq hc hfl
    simp [cParts] at hq
    subst hq
    simp [fillA] at hfl
    subst hfl
    exact ⟨vs, by simp [Instr.fill], hc⟩
  | cons p ps ih =>
    intro q cs vs cs' hq hc hfl
    obtain ⟨i, x⟩ := p
    simp only [cParts] at hq
    split at hq
    · rename_i f hfi
      split at hq
      · rename_i inf a q' h1 h2 h3
        split at hq
        · rename_i h0
          cases hq
          simp only [List.map_cons, fillA] at hfl
          split at hfl
          · rename_i hlen
            split at hfl
            · rename_i c1 hset
              obtain ⟨inf', g1, g2⟩ := hp i f hfi
              rw [h1] at g1
              cases g1
              have hpc := part_cells (opd_ok h2 hf).1 (by omega)
              obtain ⟨k1, k2⟩ := hc.set hpc hset
              obtain ⟨vs', r1, r2⟩ := ih q' c1 _ cs' h3 k2 hfl
              refine ⟨vs', ?_, r2⟩
              have hsz : (rho tm x).cells.size = inf.size := by have := hpc.1; simp at this; omega
              simp only [List.map_cons, Instr.fill, g2]
              rw [if_neg (by simp [hsz]; omega)]
              rw [← r1]
              congr 1
              rw [← Array.foldl_toList, Array.toList_zipIdx]
            · cases hfl
          · cases hfl
        · cases hq
      · cases hq
    · cases hq


theorem mapM_places (P : Program) : ∀ (l : List Field), (∀ f, f ∈ l → ∃ inf, P.info? f.type = some inf) → ∀ w,
    (l.mapM fun f => (do pure (f.offset, ← sizeOf f.type) : Sem (Nat × Nat))).run P w = .ok (l.map fun f => (f.offset, P.cellsOf f.type)) w
  | [], _, w => by simp
  | f :: r, h, w => by
    obtain ⟨inf, hin⟩ := h f (by simp)
    have := mapM_places P r (fun f hf => h f (by simp [hf])) w
    simp only [List.mapM_cons, Sem.run_bind, sizeOf_run hin, Result.andThen_ok, Sem.run_pure, this, List.map_cons]
    simp [Program.cellsOf, hin]

/-- all fields of a struct are known -/
def fieldsKnown (P : Program) (fs : Array Field) : Bool := fs.toList.all fun f => (P.info? f.type).isSome

theorem op_build {o : Oper} {t : TypeId} {ps : Array (Nat × Operand)} {fs : Array Field} {z : List AV} {q : List (Nat × Nat × Opd)} (ho : o.op = .build t ps) (hu : P.underlying t = some (.struct fs))
    (hk : fieldsKnown P fs = true) (hz : zeroC P t = some z) (hq : cParts P fs ps.toList = some q) {cs : List AV} (hs : fillA z (q.map fun p => (p.1, p.2.1, ev s p.2.2)) = some cs)
    (hi : Inv B g s.heap w) (hf : FR g d s tm w L R) : Plain P B d g s tm w o (.agg cs) := by
  obtain ⟨i, v, h1, h2, h3, h4⟩ := zeroC_ok hz
  obtain ⟨h5, h6⟩ := mts_get (g := g) (R := R) (k := s.tk) h3
  have hknown : ∀ f, f ∈ fs.toList → ∃ inf, P.info? f.type = some inf := by
    intro f hf
    simp only [fieldsKnown, List.all_eq_true] at hk
    exact Option.isSome_iff_exists.1 (hk f hf)
  have hmap := mapM_places P fs.toList hknown w
  obtain ⟨vs', r1, r2⟩ := fill_ok (P := P) (places := fs.map fun f => (f.offset, P.cellsOf f.type)) (fs := fs) (fun i f hfi => by
      obtain ⟨inf, hin⟩ := hknown f (by simpa using List.mem_of_getElem? (l := fs.toList) (i := i) (by simpa using hfi))
      exact ⟨inf, hin, by simp [hfi, Program.cellsOf, hin]⟩) hf ps.toList q z v.cells cs hq
    ⟨by simpa using h5, fun i c x e1 e2 => ⟨(h6 i c x e1 (by simpa using e2)).1, (h6 i c x e1 (by simpa using e2)).2.1⟩⟩ hs
  refine .mk hi hf (.agg vs') ?_ (.agg _ _ r2.1 fun i c x e1 e2 => (r2.2 i c x e1 e2).1) (fun i c x e1 e2 => (r2.2 i c x e1 (by simpa [Value.cells] using e2)).2)
  have hm : (fs.mapM fun f => (do pure (f.offset, ← sizeOf f.type) : Sem (Nat × Nat))).run P w = .ok (fs.map fun f => (f.offset, P.cellsOf f.type)) w := by
    rw [Array.mapM_eq_mapM_toList]
    simp only [Sem.run_map, hmap, Result.andThen_ok]
    congr 1
    apply Array.ext'
    simp
  simp only [execOp, ho, Instr.build, Sem.run_bind, zeroValue, typeInfo, run_program, h1, Result.andThen_ok, Sem.run_pure, h2, run_underlying hu, hm]
  have : (ps.map fun (i, x) => (i, rho tm x)).toList = ps.toList.map fun p => (p.1, rho tm p.2) := by simp
  rw [this, r1]
  simp

end
end Go.PM

/- One operation of the machine against one of the reading: loads and stores. -/
namespace Go.PM
section
variable {P : Program} {H : Hints} {B d : Nat} {g : G} {s : St} {tm : Array Value} {w : World} {L : Nat → Option Nat} {R : Rm}

/-- reading a place whose cells are known -/
theorem load_cells {t : TypeId} {inf : TypeInfo} {ag : Bool} (hag : isAggT P t = some ag) (hin : P.info? t = some inf) (h1 : ag = false → inf.size = 1) {b o0 : Nat} {cs : List AV} {T : AV → Value → Prop}
    (hc : ∀ (j : Nat) c, cs[j]? = some c → ∃ v, cl w b (o0 + j) = some v ∧ RV g c v ∧ T c v) {off : Nat} {av : AV} (hg : getc ag inf.size cs off = some av) :
    ∃ v, (Instr.loadAt t (.pointer (some ⟨b, o0 + off, none⟩))).run P w = .ok v w ∧ RV g av v ∧
      (match ag with | true => ∃ c2 v2, av = .agg c2 ∧ v = .agg v2 ∧ ∀ (i : Nat) c x, c2[i]? = some c → v2[i]? = some x → T c x | false => T av v) := by
  cases ag with
  | true =>
    simp only [getc] at hg
    split at hg
    · rename_i hle
      cases hg
      have hget : ∀ j, j < inf.size → ∃ c, cs[off + j]? = some c := fun j hj => ⟨_, List.getElem?_eq_getElem (by omega)⟩
      let vs : List Value := (List.range inf.size).map fun j => (cl w b (o0 + off + j)).getD undef
      have hvs : vs.length = inf.size := by simp [vs]
      have hv : ∀ j v, vs[j]? = some v → j < inf.size ∧ cl w b (o0 + off + j) = some v := by
        intro j v hj
        have hlt : j < inf.size := by rw [← hvs]; exact (List.getElem?_eq_some_iff.1 hj).1
        simp only [vs, List.getElem?_map, List.getElem?_range hlt, Option.map_some, Option.some.injEq] at hj
        obtain ⟨c, hcj⟩ := hget j hlt
        obtain ⟨v', h2, _⟩ := hc _ c hcj
        rw [← Nat.add_assoc] at h2
        rw [h2] at hj
        exact ⟨hlt, by rw [h2, ← hj]; rfl⟩
      have hu : ∃ ds, P.underlying t = some ds ∧ ds.isRow = true := by
        unfold isAggT at hag
        split at hag <;> rename_i e
        · exact ⟨_, e, rfl⟩
        · exact ⟨_, e, rfl⟩
        · cases hag
        · cases hag
      obtain ⟨ds, hu, hrow⟩ := hu
      refine ⟨.agg vs.toArray, run_loadAt_mid w b (o0 + off) t vs ds (fun j v hj => (hv j v hj).2) hu hrow (by simp [hin, hvs]), .agg _ _ (by simp [hvs]; omega) ?_, _, _, rfl, rfl, ?_⟩
      all_goals
        intro i c x e1 e2
        rw [List.getElem?_take] at e1
        split at e1
        · rw [List.getElem?_drop] at e1
          obtain ⟨v', h2, h3, h4⟩ := hc _ c e1
          have := (hv i x (by simpa using e2)).2
          rw [Nat.add_assoc, h2] at this
          cases this
          first | exact h3 | exact h4
        · cases e1
    · cases hg
  | false =>
    simp only [getc] at hg
    obtain ⟨v, h2, h3, h4⟩ := hc off av hg
    refine ⟨v, ?_, h3, h4⟩
    have : w.cell? ⟨b, o0 + off, none⟩ = some v := h2
    simp [Instr.loadAt, Instr.sureAddr, loadVar, isAgg_run hag, this]

theorem load_rf {t : TypeId} {inf : TypeInfo} {ag : Bool} (hag : isAggT P t = some ag) (hin : P.info? t = some inf) (h1 : ag = false → inf.size = 1)
    {e av : AV} {pv : Value} (h0 : RF g L R s.tk e pv) (hs : loadAt ag inf.size s e = some av) (hi : Inv B g s.heap w) (hf : FR g d s tm w L R) :
    ∃ v b o, pv = .pointer (some ⟨b, o, none⟩) ∧ (Instr.loadAt t pv).run P w = .ok v w ∧ RV g av v ∧ Tk2 R s.tk av v := by
  cases e with
  | lref t' off =>
    simp only [PM.loadAt] at hs
    split at hs
    · rename_i cs hcs
      obtain ⟨b, hb, hh⟩ := hf.lc t' cs hcs
      obtain ⟨b', hb', hv⟩ := h0
      rw [hb] at hb'
      cases hb'
      obtain ⟨v, r1, r2, r3⟩ := load_cells (o0 := 0) (T := Tk R s.tk) hag hin h1 (fun j c hj => by
        obtain ⟨_, v, q1, q2, q3⟩ := hh j c hj
        exact ⟨v, by simpa using q1, q2, q3⟩) hs
      rw [Nat.zero_add] at r1
      refine ⟨v, _, _, hv, by rw [hv]; exact r1, r2, ?_⟩
      cases ag with
      | true =>
        obtain ⟨c2, v2, rfl, rfl, hT⟩ := r3
        intro i c x' e1 e2
        exact hT i c x' e1 (by simpa [Value.cells] using e2)
      | false =>
        cases av <;> first | exact r3 | exact absurd r3 (fun h => h)
    · cases hs
  | eref cs off =>
    simp only [PM.loadAt, Option.map_eq_some_iff] at hs
    obtain ⟨av0, hs, rfl⟩ := hs
    obtain ⟨h2, _⟩ := h0
    cases h2 with
    | eref _ _ b o' val k1 k2 =>
      obtain ⟨v, r1, r2, _⟩ := load_cells (o0 := o') (T := fun _ _ => True) hag hin h1 (fun j c hj => ⟨val j, hi.imm _ _ _ (k1 j c hj), k2 j c hj, trivial⟩) hs
      exact ⟨v, _, _, rfl, r1, r2.nrm1, by
        have := Tk1_nrm1 (R := R) (k := s.tk) av0 v
        cases av0 <;> exact this⟩
  | ptr id el off =>
    simp only [PM.loadAt] at hs
    split at hs
    · rename_i sz els hob
      split at hs
      · rename_i cs hcs
        simp only [Option.map_eq_some_iff] at hs
        obtain ⟨av0, hs, rfl⟩ := hs
        obtain ⟨h2, _⟩ := h0
        cases h2 with
        | ptr _ _ _ hid =>
          obtain ⟨q1, q2⟩ := hi.hp id _ hob
          obtain ⟨q3, q4⟩ := q2 el cs hcs
          obtain ⟨v, r1, r2, _⟩ := load_cells (b := g.adr id) (o0 := el * g.osz id) (T := fun _ _ => True) hag hin h1 (fun j c hj => by
            obtain ⟨_, v, p1, p2, _⟩ := q4 j c hj
            exact ⟨v, by rw [q1]; exact p1, p2, trivial⟩) hs
          exact ⟨v, _, _, rfl, r1, r2.nrm1, by
            have := Tk1_nrm1 (R := R) (k := s.tk) av0 v
            cases av0 <;> exact this⟩
      · cases hs
    · cases hs
  | _ => simp [PM.loadAt] at hs

theorem op_load {o : Oper} {t : TypeId} {x : Operand} {a : Opd} {inf : TypeInfo} {ag : Bool} (ho : o.op = .load t x) (hag : isAggT P t = some ag) (hin : P.info? t = some inf) (h1 : ag = false → inf.size = 1)
    (hx : cOpd P 0 x = some a) {av : AV} (hs : loadAt ag inf.size s (ev s a) = some av) (hi : Inv B g s.heap w) (hf : FR g d s tm w L R) : Plain P B d g s tm w o av := by
  obtain ⟨v, _, _, _, r1, r2, r3⟩ := load_rf hag hin h1 (opd_ok hx hf).1 hs hi hf
  exact .mk hi hf v (by simp [execOp, ho, r1]) r2 r3

/-! ### stores -/

theorem store_run {t : TypeId} {inf : TypeInfo} (hin : P.info? t = some inf) {b o : Nat} {v : Value} (hsz : v.cells.size = inf.size) (h1 : ∀ (i : Nat) x, v.cells[i]? = some x → x.oneCell' = true)
    (hc : ∀ j, j < v.cells.size → (cl w b (o + j)).isSome = true ∧ fz w b (o + j) = false) :
    (Instr.storeAt t (.pointer (some ⟨b, o, none⟩)) v).run P w = .ok () (w.setCells b o v.cells.toList) := by
  have := run_storeCells_cells (P := P) b o v.cells.toList 0 w (fun j hj => by simpa [cl] using (hc j (by simpa using hj)).1) (fun j hj => by simpa [fz] using (hc j (by simpa using hj)).2)
    (fun x hx => by
      obtain ⟨i, hi⟩ := List.mem_iff_getElem?.1 hx
      exact h1 i x (by simpa using hi))
  simp only [Nat.add_zero] at this
  simp only [Instr.storeAt, Instr.sureAddr, Sem.run_bind, Sem.run_pure, Result.andThen_ok, storeVar, sizeOf_run hin, hsz]
  simp [this]

theorem ones {k : Nat} {a : AV} {v : Value} (h : RF g L R k a v) (h0 : 0 < a.cells.length) (h1 : a.cells.all AV.one = true) : ∀ (i : Nat) x, v.cells[i]? = some x → x.oneCell' = true := by
  intro i x hx
  have hc := cells_ok h h0
  have hlt : i < a.cells.length := by rw [hc.1]; exact (Array.getElem?_eq_some_iff.1 hx).1
  have hg : a.cells[i]? = some a.cells[i] := List.getElem?_eq_getElem hlt
  have ho : (a.cells[i]).one = true := by
    simp only [List.all_eq_true] at h1
    exact h1 _ (List.getElem_mem hlt)
  cases a with
  | agg cs =>
    cases h.1 with
    | agg _ vs hl hh => exact one_oneCell (hh i _ x hg (by simpa [Value.cells] using hx)) ho
  | lref t o =>
    obtain ⟨b, _, rfl⟩ := h
    cases i with
    | zero => simp [Value.cells] at hx; rw [← hx]; rfl
    | succ i => simp [Value.cells] at hx
  | undef => simp [AV.cells] at h0
  | tup _ => simp [AV.cells] at h0
  | _ =>
    obtain ⟨h2, _⟩ := h
    have hv : v.cells = #[v] := by cases h2 <;> rfl
    rw [hv] at hx
    cases i with
    | zero => simp at hx; subst hx; exact one_oneCell h2 (by simpa [AV.cells] using ho)
    | succ i => simp at hx

theorem op_store_loc {o : Oper} {t : TypeId} {x y : Operand} {a c : Opd} {inf : TypeInfo} (ho : o.op = .store t x y) (hin : P.info? t = some inf) (h0 : 0 < inf.size) (hx : cOpd P 0 x = some a) (hy : cOpd P t y = some c)
    (hl : (ev s c).cells.length = inf.size) (h1 : (ev s c).cells.all AV.one = true) {t' off : Nat} (he : ev s a = .lref t' off) {cs cs' : List AV} (hcs : s.loc[t']? = some (some cs))
    (hset : setc cs off ((ev s c).cells.map AV.part) = some cs') (hi : Inv B g s.heap w) (hf : FR g d s tm w L R) :
    ∃ w' L', (execOp (rho tm) o).run P w = .ok .skip w' ∧ Keep B d g w g w' ∧ Inv B g s.heap w' ∧ FR g d { s with loc := s.loc.set t' (some cs') } tm w' L' R := by
  have hX := (opd_ok hx hf).1
  rw [he] at hX
  obtain ⟨b, hb, hv⟩ := hX
  obtain ⟨b', hb', hh⟩ := hf.lc t' cs hcs
  rw [hb] at hb'
  cases hb'
  have hY := (opd_ok hy hf).1
  have hpc := part_cells hY (by omega)
  obtain ⟨e1, e2, e3⟩ := setc_get hset
  have hsz : (rho tm y).cells.size = inf.size := by have := hpc.1; simp at this; omega
  simp only [List.length_map] at e1
  have hK : ∀ j, j < (rho tm y).cells.toList.length → g.K b (off + j) = .loc d t' := by
    intro j hj
    simp at hj
    have : off + j < cs.length := by omega
    exact (hh _ _ (List.getElem?_eq_getElem this)).1
  have hlt : t' < s.loc.length := (List.getElem?_eq_some_iff.1 hcs).1
  have hrun := store_run (P := P) hin (w := w) (b := b) (o := off) hsz (ones hY (by omega) h1) (fun j hj => by
    have hk := hK j (by simpa using hj)
    exact ⟨hi.own _ _ (by rw [hk]; simp), hi.fz _ _ (by rw [hk]; simp) (by rw [hk]; simp)⟩)
  refine ⟨w.setCells b off (rho tm y).cells.toList, L, ?_, ?_, ?_, ?_⟩
  · simp [execOp, ho, hv, hrun]
  · refine Keep.write hi (fun j hj => by rw [hK j hj]; simp [Outer]) (hi.ge (b := b) (o := off + 0) ?_ ?_)
    · rw [hK 0 (by simp; omega)]; simp
    · rw [hK 0 (by simp; omega)]; simp
  · refine hi.write (fun j hj => by rw [hK j hj]; simp) (fun id hob hid => ?_)
    refine (hi.hp id hob hid).mono (.refl g) (by rw [← hi.len]; exact (List.getElem?_eq_some_iff.1 hid).1) (fun _ _ _ => rfl) (fun o' hk => cl_setCells_out (fun e => ?_))
    by_cases hlt : o' < off
    · exact .inl hlt
    · by_cases hge : off + (rho tm y).cells.toList.length ≤ o'
      · exact .inr hge
      · exfalso
        have := hK (o' - off) (by omega)
        rw [show off + (o' - off) = o' by omega] at this
        rw [e] at hk
        rw [hk] at this
        cases this
  · refine ⟨hf.sz, by simp [hf.ls], hf.tm, fun t1 cs1 h2 => ?_, hf.rg, hf.rk, hf.lv, hf.lk, fun t1 t2 off' h2 => ?_⟩
    · simp only [List.getElem?_set] at h2
      by_cases et : t' = t1
      · subst et
        simp only [if_true, hlt] at h2
        cases h2
        refine ⟨b, hb, fun j av hj => ?_⟩
        have hjl : j < cs.length := by rw [← e2]; exact (List.getElem?_eq_some_iff.1 hj).1
        obtain ⟨q0, v, q1, q2, q3⟩ := hh j _ (List.getElem?_eq_getElem hjl)
        rw [e3] at hj
        by_cases hin' : off ≤ j ∧ j < off + ((ev s c).cells.map AV.part).length
        · rw [if_pos hin'] at hj
          simp only [List.length_map] at hin'
          have hlt2 : j - off < (rho tm y).cells.size := by omega
          obtain ⟨r1, r2⟩ := hpc.2 (j - off) av _ hj (Array.getElem?_eq_getElem hlt2)
          refine ⟨q0, (rho tm y).cells[j - off], ?_, r1, r2⟩
          have := cl_setCells_in (w := w) (b := b) (o := off) (vs := (rho tm y).cells.toList) (fun j hj => hi.own _ _ (by rw [hK j hj]; simp)) (j := j - off) (by simpa using hlt2)
          rw [show off + (j - off) = j by omega] at this
          simpa using this
        · rw [if_neg hin'] at hj
          simp only [List.length_map] at hin'
          rw [List.getElem?_eq_getElem hjl] at hj
          cases hj
          exact ⟨q0, v, by rw [cl_setCells_out (fun _ => by simp; omega)]; exact q1, q2, q3⟩
      · rw [if_neg et] at h2
        obtain ⟨b1, hb1, hh1⟩ := hf.lc t1 cs1 h2
        refine ⟨b1, hb1, fun j av hj => ?_⟩
        obtain ⟨q0, v, q1, q2, q3⟩ := hh1 j av hj
        refine ⟨q0, v, ?_, q2, q3⟩
        rw [cl_setCells_out]; exact q1
        intro e
        by_cases hlt : j < off
        · exact .inl hlt
        · by_cases hge : off + (rho tm y).cells.toList.length ≤ j
          · exact .inr hge
          · exfalso
            have := hK (j - off) (by omega)
            rw [show off + (j - off) = j by omega] at this
            rw [e] at q0
            rw [q0] at this
            simp only [Kd.loc.injEq] at this
            exact et this.2.symm
    · by_cases e : t' = t2
      · subst e
        exact ⟨cs', by simp [hlt]⟩
      · obtain ⟨cs2, h3⟩ := hf.st t1 t2 off' h2
        exact ⟨cs2, by simp [e, h3]⟩

end
end Go.PM

/- The reading's heap against the machine's: rooms handed over, cells written, new objects. -/
namespace Go.PM
open Classical in
/-- an owner's cells go to another owner -/
noncomputable def G.mv (g : G) (x y : Kd) : G := { g with K := fun b o => if g.K b o = x then y else g.K b o }

def Rm.drop (R : Rm) (n : Nat) : Rm := fun m => if m = n then none else R m

section
variable {P : Program} {B d : Nat} {g : G} {s : St} {tm : Array Value} {w : World} {L : Nat → Option Nat} {R : Rm} {hp : List HObj}

theorem mv_other {x y : Kd} {b o : Nat} (h : g.K b o ≠ x) : (g.mv x y).K b o = g.K b o := by simp [G.mv, h]
theorem mv_same {x y : Kd} {b o : Nat} (h : g.K b o = x) : (g.mv x y).K b o = y := by simp [G.mv, h]

theorem mv_le {x y : Kd} (hx : ∀ v, x ≠ .imm v) : g.le (g.mv x y) :=
  ⟨fun b o v h => by rw [mv_other (by rw [h]; exact fun e => hx v e.symm)]; exact h, Nat.le_refl _, fun _ _ => rfl, fun _ _ => rfl⟩

theorem Tk.sub {R R' : Rm} {k k' : Nat} (hR : ∀ n r, R' n = some r → R n = some r ∨ (k ≤ n)) (hk : k ≤ k') {a : AV} {v : Value} (h : Tk R k a v) : Tk R' k' a v := by
  cases a <;> first | exact h | skip
  rename_i sz es own
  cases own <;> first | exact h | skip
  refine ⟨Nat.lt_of_lt_of_le h.1 hk, fun b x e hr => ?_⟩
  rcases hR _ _ hr with hr | hr
  · exact h.2 b x e hr
  · exact absurd h.1 (by omega)

theorem Tk1.sub {R R' : Rm} {k k' : Nat} (hR : ∀ n r, R' n = some r → R n = some r ∨ (k ≤ n)) (hk : k ≤ k') {a : AV} {v : Value} (h : Tk1 R k a v) : Tk1 R' k' a v := by
  cases a
  case agg cs => exact fun i c x h1 h2 => (h i c x h1 h2).sub hR hk
  all_goals (simp only [Tk1] at h ⊢; exact h.sub hR hk)

theorem Tk2.sub {R R' : Rm} {k k' : Nat} (hR : ∀ n r, R' n = some r → R n = some r ∨ (k ≤ n)) (hk : k ≤ k') {a : AV} {v : Value} (h : Tk2 R k a v) : Tk2 R' k' a v := by
  cases a
  case tup cs => exact fun i c x h1 h2 => Tk1.sub hR hk (h i c x h1 h2)
  case agg cs => exact fun i c x h1 h2 => (h i c x h1 h2).sub hR hk
  all_goals (simp only [Tk2, Tk1] at h ⊢; exact h.sub hR hk)

theorem RF.sub {R R' : Rm} {k k' : Nat} (hR : ∀ n r, R' n = some r → R n = some r ∨ (k ≤ n)) (hk : k ≤ k') {a : AV} {v : Value} (h : RF g L R k a v) : RF g L R' k' a v := by
  cases a
  case lref t o => exact h
  all_goals exact ⟨h.1, Tk2.sub hR hk h.2⟩

theorem Inv.mv (h : Inv B g hp w) {x y : Kd} (hx : ∀ v, x ≠ .imm v) (hy : ∀ v, y ≠ .imm v) (hxf : x ≠ .free) (hyf : y ≠ .free) (hxo : ∀ i, x ≠ .obj i) (hxp : ∀ i e c, x ≠ .osp i e c) : Inv B (g.mv x y) hp w := by
  have key : ∀ b o, (g.mv x y).K b o ≠ .free → g.K b o ≠ .free := by
    intro b o hk e
    rw [mv_other (by rw [e]; exact fun q => hxf q.symm)] at hk
    exact hk e
  have key2 : ∀ b o v, g.K b o = .imm v → (g.mv x y).K b o = .imm v := fun b o v e => (mv_le hx).imm b o v e
  refine ⟨fun b o v hk => ?_, fun b o hk => h.own b o (key b o hk), fun b o hk hn => h.fz b o (key b o hk) (fun v e => hn v (key2 b o v e)), fun b o hb => ?_, h.bs, h.len, h.inj, h.lt, fun id ho he => ?_⟩
  · by_cases e : g.K b o = x
    · rw [mv_same e] at hk; exact absurd hk (hy v)
    · rw [mv_other e] at hk; exact h.imm b o v hk
  · rcases h.low b o hb with e | ⟨v, e⟩
    · exact .inl (by rw [mv_other (by rw [e]; exact fun q => hxf q.symm)]; exact e)
    · exact .inr ⟨v, key2 b o v e⟩
  · have hid : id < g.n := by rw [← h.len]; exact (List.getElem?_eq_some_iff.1 he).1
    refine (h.hp id ho he).mono (mv_le hx) hid (fun b o hk => mv_other ?_) (fun _ _ => rfl)
    rcases hk with ⟨i, e⟩ | ⟨i, e1, e2, e⟩ <;> rw [e]
    · exact fun q => hxo _ q.symm
    · exact fun q => hxp _ _ _ q.symm

theorem Keep.mv {x y : Kd} (hx : ∀ v, x ≠ .imm v) (ho : ¬ Outer d x) : Keep B d g w (g.mv x y) w :=
  ⟨mv_le hx, fun b o h => ⟨mv_other (by rintro e; rw [e] at h; exact ho h), rfl⟩, fun _ _ => rfl, rfl, rfl⟩

/-- a room leaves the frame -/
theorem FR.leave (h : FR g d s tm w L R) (n : Nat) (y : Kd) : FR (g.mv (.tok d n) y) d { s with live := s.live.filter fun m => m != n } tm w L (R.drop n) := by
  have hx : ∀ v, Kd.tok d n ≠ .imm v := by simp
  have hR : ∀ m r, (R.drop n) m = some r → R m = some r ∨ s.tk ≤ m := by
    intro m r hr
    simp only [Rm.drop] at hr
    split at hr
    · cases hr
    · exact .inl hr
  refine ⟨h.sz, h.ls, fun t av v h1 h2 => ((h.tm t av v h1 h2).mono (mv_le hx)).sub hR (Nat.le_refl _), fun t cs h1 => ?_, fun m b x e h1 o h2 h3 => ?_, fun m r hr => ?_, fun m hm => ?_, fun m hm => ?_, h.st⟩
  · obtain ⟨b, hb, hh⟩ := h.lc t cs h1
    refine ⟨b, hb, fun j av hj => ?_⟩
    obtain ⟨e1, v, e2, e3, e4⟩ := hh j av hj
    exact ⟨by rw [mv_other (by rw [e1]; simp)]; exact e1, v, e2, e3.mono (mv_le hx), e4.sub hR (Nat.le_refl _)⟩
  · simp only [Rm.drop] at h1
    split at h1
    · cases h1
    · rename_i hne
      have := h.rg m b x e h1 o h2 h3
      rw [mv_other (by rw [this]; simp [hne])]; exact this
  · rcases hR m r hr with e | e
    · exact h.rk m r e
    · simp only [Rm.drop] at hr
      split at hr
      · cases hr
      · exact h.rk m r hr
  · simp only [List.mem_filter, bne_iff_ne, ne_eq] at hm
    simp only [Rm.drop, if_neg hm.2]
    exact h.lv m hm.1
  · simp only [List.mem_filter, bne_iff_ne, ne_eq] at hm
    exact h.lk m hm.1

/-- the cells behind a slice whose room is live -/
theorem room_cells (h : FR g d s tm w L R) {sz : Nat} {es : List (List AV)} {n : Nat} {v : Value} (hn : n ∈ s.live) (ht : Tk R s.tk (.sl sz es (.tok n)) v) {b o len cap : Nat} (hv : v = .slice (some ⟨b, o, none⟩) len cap)
    {k : Nat} (h1 : es.length * sz ≤ k) (h2 : k < cap * sz) : g.K b (o + k) = .tok d n := by
  obtain ⟨⟨b', x, e⟩, hr⟩ := Option.isSome_iff_exists.1 (h.lv n hn)
  have hlt : es.length < cap := by
    rcases Nat.lt_or_ge es.length cap with h | h
    · exact h
    · have := Nat.mul_le_mul_right sz h; omega
  obtain ⟨t1, t2, t3⟩ := ht.2 b' x e hr b o len cap hv hlt
  subst t1
  exact h.rg n b x e hr (o + k) (by omega) (by omega)

/-- one cell goes to the heap -/
theorem toHeap_ok (hi : Inv B g hp w) (hf : FR g d s tm w L R) (id el c0 : Nat) {c : AV} {v : Value} (hr : RV g c v) (ht : Tk R s.tk c v) :
    ∃ g' R', Keep B d g w g' w ∧ Inv B g' hp w ∧ FR g' d { s with live := (c.toHeap s.live).2 } tm w L R' ∧ RV g' (c.toHeap s.live).1 v ∧ Fl g' id el c0 (c.toHeap s.live).1 v ∧
      (∀ m r, R' m = some r → R m = some r) ∧ (∀ b o i e cc, g.K b o = .osp i e cc → g'.K b o = .osp i e cc) ∧ (∀ b o i, g.K b o = .obj i → g'.K b o = .obj i) := by
  cases c
  case sl sz es own =>
    cases own
    case tok n =>
      by_cases hn : n ∈ s.live
      · have hl : s.live.contains n = true := by simpa using hn
        refine ⟨g.mv (.tok d n) (.osp id el c0), R.drop n, .mv (by simp) (by simp [Outer]), hi.mv (by simp) (by simp) (by simp) (by simp) (by simp) (by simp), ?_, ?_, ?_, ?_, ?_, ?_⟩
        · simp only [AV.toHeap, roomy, hl, if_true, unlive]
          exact hf.leave n _
        · simp only [AV.toHeap, roomy, hl, if_true]
          exact (hr.mono (mv_le (by simp))).own
        · simp only [AV.toHeap, roomy, hl, if_true]
          intro b o len cap e k h1 h2
          exact mv_same (room_cells hf hn ht e h1 h2)
        · intro m r hr
          simp only [Rm.drop] at hr
          split at hr
          · cases hr
          · exact hr
        · intro b o i e cc hk
          rw [mv_other (by rw [hk]; simp)]; exact hk
        · intro b o i hk
          rw [mv_other (by rw [hk]; simp)]; exact hk
      · have hl : s.live.contains n = false := by simpa using hn
        refine ⟨g, R, .refl B d g w, hi, ?_, ?_, ?_, fun _ _ h => h, fun _ _ _ _ _ h => h, fun _ _ _ h => h⟩
        · simp only [AV.toHeap, roomy, hl, Bool.false_eq_true, if_false]; exact hf
        · simp only [AV.toHeap, roomy, hl, Bool.false_eq_true, if_false]; exact hr.own
        · simp only [AV.toHeap, roomy, hl, Bool.false_eq_true, if_false]; exact trivial
    case exact =>
      refine ⟨g, R, .refl B d g w, hi, ?_, ?_, ?_, fun _ _ h => h, fun _ _ _ _ _ h => h, fun _ _ _ h => h⟩
      · simp only [AV.toHeap, roomy, if_true, unlive]; exact hf
      · simp only [AV.toHeap, roomy, if_true]; exact hr.own
      · simp only [AV.toHeap, roomy, if_true]
        intro b o len cap e k h1 h2
        have := ht _ _ _ e
        subst this; omega
    all_goals
      refine ⟨g, R, .refl B d g w, hi, ?_, ?_, ?_, fun _ _ h => h, fun _ _ _ _ _ h => h, fun _ _ _ h => h⟩
      · simp only [AV.toHeap, roomy, Bool.false_eq_true, if_false]; exact hf
      · simp only [AV.toHeap, roomy, Bool.false_eq_true, if_false]; exact hr.own
      · simp only [AV.toHeap, roomy, Bool.false_eq_true, if_false]; exact trivial
  all_goals exact ⟨g, R, .refl B d g w, hi, hf, hr.nrm0, trivial, fun _ _ h => h, fun _ _ _ _ _ h => h, fun _ _ _ h => h⟩

theorem Fl.mono {g' : G} {id el c : Nat} {a : AV} {v : Value} (hk : ∀ b o i e cc, g.K b o = .osp i e cc → g'.K b o = .osp i e cc) (h : Fl g id el c a v) : Fl g' id el c a v := by
  cases a <;> first | exact trivial | skip
  rename_i sz es own
  cases own <;> first | exact trivial | skip
  exact fun b o len cap e k h1 h2 => hk _ _ _ _ _ (h b o len cap e k h1 h2)

/-- several cells go to the heap -/
theorem toHeaps_ok (id el : Nat) : ∀ (cs : List AV) (vs : List Value) (c0 : Nat) (g : G) (s : St) (R : Rm), Inv B g hp w → FR g d s tm w L R → cs.length = vs.length →
    (∀ (i : Nat) c v, cs[i]? = some c → vs[i]? = some v → RV g c v ∧ Tk R s.tk c v) →
    ∃ g' R', Keep B d g w g' w ∧ Inv B g' hp w ∧ FR g' d { s with live := (toHeaps s.live cs).2 } tm w L R' ∧ (toHeaps s.live cs).1.length = cs.length ∧
      (∀ (i : Nat) c v, (toHeaps s.live cs).1[i]? = some c → vs[i]? = some v → RV g' c v ∧ Fl g' id el (c0 + i) c v) ∧
      (∀ b o i e cc, g.K b o = .osp i e cc → g'.K b o = .osp i e cc) ∧ (∀ b o i, g.K b o = .obj i → g'.K b o = .obj i)
  | [], vs, c0, g, s, R, hi, hf, _, _ => ⟨g, R, .refl B d g w, hi, hf, rfl, fun i c v h => by simp [toHeaps] at h, fun _ _ _ _ _ h => h, fun _ _ _ h => h⟩
  | c :: cs, [], c0, g, s, R, _, _, h, _ => by simp at h
  | c :: cs, v :: vs, c0, g, s, R, hi, hf, hl, hh => by
    obtain ⟨hr, ht⟩ := hh 0 c v rfl rfl
    obtain ⟨g1, R1, k1, i1, f1, r1, fl1, sub1, o1, b1⟩ := toHeap_ok (B := B) hi hf id el c0 hr ht
    obtain ⟨g2, R2, k2, i2, f2, l2, r2, o2, b2⟩ := toHeaps_ok id el cs vs (c0 + 1) g1 { s with live := (c.toHeap s.live).2 } R1 i1 f1 (by simpa using hl) (fun i c' v' e1 e2 => by
      obtain ⟨p, q⟩ := hh (i + 1) c' v' (by simpa using e1) (by simpa using e2)
      exact ⟨p.mono k1.le, q.sub (fun n r hr => .inl (sub1 n r hr)) (Nat.le_refl _)⟩)
    refine ⟨g2, R2, k1.trans k2, i2, f2, by simp [toHeaps, l2], fun i c' v' e1 e2 => ?_, fun b o i e cc hk => o2 _ _ _ _ _ (o1 _ _ _ _ _ hk), fun b o i hk => b2 _ _ _ (b1 _ _ _ hk)⟩
    cases i with
    | zero =>
      simp [toHeaps] at e1 e2
      subst e1; subst e2
      exact ⟨r1.mono k2.le, fl1.mono o2⟩
    | succ i =>
      simp [toHeaps] at e1 e2
      have := r2 i c' v' e1 e2
      rwa [show c0 + 1 + i = c0 + (i + 1) by omega] at this

end
end Go.PM

/- The reading's heap against the machine's: stores, new objects, taking a room. -/
namespace Go.PM
section
variable {P : Program} {B d : Nat} {g : G} {s : St} {tm : Array Value} {w : World} {L : Nat → Option Nat} {R : Rm} {hp : List HObj}

/-- writes to the cells of an object of the heap, seen from a frame -/
theorem FR.write_obj (hf : FR g d s tm w L R) {b o : Nat} {vs : List Value} {id : Nat} (hK : ∀ j, j < vs.length → g.K b (o + j) = .obj id) : FR g d s tm (w.setCells b o vs) L R := by
  refine ⟨hf.sz, hf.ls, hf.tm, fun t1 cs1 h2 => ?_, hf.rg, hf.rk, hf.lv, hf.lk, hf.st⟩
  obtain ⟨b1, hb1, hh1⟩ := hf.lc t1 cs1 h2
  refine ⟨b1, hb1, fun j av hj => ?_⟩
  obtain ⟨q0, v, q1, q2, q3⟩ := hh1 j av hj
  refine ⟨q0, v, ?_, q2, q3⟩
  rw [cl_setCells_out]; exact q1
  intro e
  by_cases hlt : j < o
  · exact .inl hlt
  · by_cases hge : o + vs.length ≤ j
    · exact .inr hge
    · exfalso
      have := hK (j - o) (by omega)
      rw [show o + (j - o) = j by omega] at this
      rw [e] at q0
      rw [q0] at this
      cases this

/-- cells of an object are written -/
theorem store_obj (hi : Inv B g hp w) {id sz el : Nat} {els : List (List AV)} (hob : hp[id]? = some (.arr sz els)) {cs : List AV} (hcs : els[el]? = some cs) {off : Nat} {c2 cs' : List AV} {vs : List Value}
    (hset : setc cs off c2 = some cs') (hl : c2.length = vs.length) (h0 : 0 < vs.length) (hr : ∀ (i : Nat) c v, c2[i]? = some c → vs[i]? = some v → RV g c v ∧ Fl g id el (off + i) c v) :
    Inv B g (hp.set id (.arr sz (els.set el cs'))) (w.setCells (g.adr id) (el * g.osz id + off) vs) ∧
    Keep B d g w g (w.setCells (g.adr id) (el * g.osz id + off) vs) ∧ (∀ j, j < vs.length → g.K (g.adr id) (el * g.osz id + off + j) = .obj id) := by
  obtain ⟨q1, q2⟩ := hi.hp id _ hob
  obtain ⟨q3, q4⟩ := q2 el cs hcs
  obtain ⟨e1, e2, e3⟩ := setc_get hset
  have hK : ∀ j, j < vs.length → g.K (g.adr id) (el * g.osz id + off + j) = .obj id := by
    intro j hj
    have hlt : off + j < cs.length := by omega
    have := (q4 (off + j) _ (List.getElem?_eq_getElem hlt)).1
    rw [← q1, ← Nat.add_assoc] at this
    exact this
  have hsome : ∀ j, j < vs.length → (cl w (g.adr id) (el * g.osz id + off + j)).isSome = true := fun j hj => hi.own _ _ (by rw [hK j hj]; simp)
  have hid : id < g.n := by rw [← hi.len]; exact (List.getElem?_eq_some_iff.1 hob).1
  have hcl : ∀ {b' o'}, (b' ≠ g.adr id ∨ o' < el * g.osz id + off ∨ el * g.osz id + off + vs.length ≤ o') → cl (w.setCells (g.adr id) (el * g.osz id + off) vs) b' o' = cl w b' o' := by
    intro b' o' h
    refine cl_setCells_out (fun e => ?_)
    rcases h with h | h | h
    · exact absurd e h
    · exact .inl h
    · exact .inr h
  have inv' : Inv B g hp w → (∀ (i : Nat) ho, (hp.set id (.arr sz (els.set el cs')))[i]? = some ho → ObjR g (w.setCells (g.adr id) (el * g.osz id + off) vs) i ho) →
      Inv B g (hp.set id (.arr sz (els.set el cs'))) (w.setCells (g.adr id) (el * g.osz id + off) vs) := by
    intro hi hob'
    obtain ⟨p1, p2, p3, p4⟩ := setCells_heap (g.adr id) vs (el * g.osz id + off) w
    refine ⟨fun b' o' v hk => ?_, fun b' o' hk => cl_setCells_some hsome (hi.own _ _ hk), fun b' o' hk hn => by rw [fz_setCells]; exact hi.fz b' o' hk hn, hi.low, by rw [p1]; exact hi.bs, by simp [hi.len], hi.inj,
      fun i h => by rw [p1]; exact hi.lt i h, hob'⟩
    by_cases hin : b' = g.adr id ∧ el * g.osz id + off ≤ o' ∧ o' < el * g.osz id + off + vs.length
    · exfalso
      obtain ⟨rfl, h1, h2⟩ := hin
      have := hK (o' - (el * g.osz id + off)) (by omega)
      rw [show el * g.osz id + off + (o' - (el * g.osz id + off)) = o' by omega, hk] at this
      cases this
    · rw [hcl (by by_cases hb : b' = g.adr id; exact .inr (by simp [hb] at hin; omega); exact .inl hb)]
      exact hi.imm _ _ _ hk
  refine ⟨inv' hi fun i ho he => ?_, Keep.write hi (fun j hj => by rw [hK j hj]; simp [Outer]) (hi.ge (b := g.adr id) (o := el * g.osz id + off + 0) (by rw [hK 0 h0]; simp) (by rw [hK 0 h0]; simp)), hK⟩
  simp only [List.getElem?_set] at he
  by_cases e : id = i
  · subst e
    rw [if_pos rfl] at he
    split at he
    · cases he
      refine ⟨q1, fun el' cs1 h1 => ?_⟩
      simp only [List.getElem?_set] at h1
      by_cases ee : el = el'
      · subst ee
        rw [if_pos rfl] at h1
        split at h1
        · cases h1
          refine ⟨by rw [e2]; exact q3, fun c av hav => ?_⟩
          have hcl' : c < cs.length := by rw [← e2]; exact (List.getElem?_eq_some_iff.1 hav).1
          obtain ⟨r1, v, r2, r3, r4⟩ := q4 c _ (List.getElem?_eq_getElem hcl')
          rw [e3] at hav
          by_cases hin : off ≤ c ∧ c < off + c2.length
          · rw [if_pos hin] at hav
            have hlt : c - off < vs.length := by omega
            obtain ⟨t1, t2⟩ := hr (c - off) av _ hav (List.getElem?_eq_getElem hlt)
            rw [show off + (c - off) = c by omega] at t2
            refine ⟨r1, vs[c - off], ?_, t1, t2⟩
            have := cl_setCells_in hsome hlt
            rw [show el * g.osz id + off + (c - off) = el * sz + c by rw [q1]; omega] at this
            exact this
          · rw [if_neg hin, List.getElem?_eq_getElem hcl'] at hav
            cases hav
            exact ⟨r1, v, by rw [hcl (.inr (by rw [q1]; omega))]; exact r2, r3, r4⟩
        · cases h1
      · rw [if_neg ee] at h1
        obtain ⟨r0, r1⟩ := q2 el' cs1 h1
        refine ⟨r0, fun c av hav => ?_⟩
        obtain ⟨t1, v, t2, t3, t4⟩ := r1 c av hav
        refine ⟨t1, v, ?_, t3, t4⟩
        rw [hcl]; exact t2
        right
        have hc : c < sz := by rw [← r0]; exact (List.getElem?_eq_some_iff.1 hav).1
        rw [q1]
        rcases Nat.lt_or_ge el' el with h | h
        · left
          have : (el' + 1) * sz ≤ el * sz := Nat.mul_le_mul_right sz (by omega)
          rw [Nat.add_mul] at this
          omega
        · right
          have : (el + 1) * sz ≤ el' * sz := Nat.mul_le_mul_right sz (by omega)
          rw [Nat.add_mul] at this
          omega
    · cases he
  · rw [if_neg e] at he
    have hi' : i < g.n := by rw [← hi.len]; exact (List.getElem?_eq_some_iff.1 he).1
    refine (hi.hp i ho he).mono (.refl g) hi' (fun _ _ _ => rfl) (fun o' hk => hcl (.inl ?_))
    intro ee
    exact e (hi.inj i id hi' hid ee).symm

/-- a new object -/
theorem new_obj (hi : Inv B g hp w) (hf : FR g d s tm w L R) {cs : List AV} {vs : Array Value} (ty : TypeId) (hl : cs.length = vs.size)
    (hr : ∀ (i : Nat) c v, cs[i]? = some c → vs[i]? = some v → RV g c v ∧ Fl g g.n 0 i c v) :
    ∃ g', Keep B d g w g' (w.alloc (.cells vs ty)) ∧ Inv B g' (hp ++ [.arr cs.length [cs]]) (w.alloc (.cells vs ty)) ∧ FR g' d s tm (w.alloc (.cells vs ty)) L R ∧ g.n < g'.n ∧ g'.adr g.n = w.heap.size ∧ g'.osz g.n = cs.length := by
  let f : Nat → Kd := fun o => if o < vs.size then .obj g.n else .free
  let g1 := g.at w.heap.size f
  let g' : G := { K := g1.K, adr := fun i => if i = g.n then w.heap.size else g.adr i, osz := fun i => if i = g.n then cs.length else g.osz i, n := g.n + 1 }
  have hle1 : g.le g1 := at_le hi f
  have hle2 : g1.le g' := by
    refine ⟨fun _ _ _ h => h, Nat.le_succ _, fun id h => ?_, fun id h => ?_⟩
    · have : id ≠ g.n := Nat.ne_of_lt h
      simp [g', this, g1, G.at]
    · have : id ≠ g.n := Nat.ne_of_lt h
      simp [g', this, g1, G.at]
  have hle := hle1.trans hle2
  have hff : ∀ o, f o ≠ .free → o < vs.size := by
    intro o ho
    simp only [f] at ho
    split at ho
    · assumption
    · exact absurd rfl ho
  have hfi : ∀ o v, f o = .imm v → vs[o]? = some v := by
    intro o v ho
    simp only [f] at ho
    split at ho <;> cases ho
  have i1 := hi.alloc vs ty f hff hfi
  have k1 : Keep B d g w g1 (w.alloc (.cells vs ty)) := .alloc hi vs ty f
  have f1 := hf.alloc hi vs ty f
  refine ⟨g', ⟨hle, k1.own, k1.low, k1.os, k1.out⟩, ?_, ?_, Nat.lt_succ_self _, by simp [g'], by simp [g']⟩
  · refine ⟨i1.imm, i1.own, i1.fz, i1.low, i1.bs, by simp [hi.len, g'], fun i j h1 h2 e => ?_, fun i h => ?_, fun id ho he => ?_⟩
    · simp only [g'] at h1 h2 e
      by_cases ei : i = g.n
      · by_cases ej : j = g.n
        · rw [ei, ej]
        · rw [if_pos ei, if_neg ej] at e
          have := hi.lt j (by omega)
          omega
      · by_cases ej : j = g.n
        · rw [if_neg ei, if_pos ej] at e
          have := hi.lt i (by omega)
          omega
        · rw [if_neg ei, if_neg ej] at e
          exact hi.inj i j (by omega) (by omega) e
    · simp only [g'] at h ⊢
      by_cases ei : i = g.n
      · rw [if_pos ei]; have := hi.bs; simp; omega
      · rw [if_neg ei]; have := hi.lt i (by omega); simp; omega
    · by_cases hid : id < hp.length
      · rw [List.getElem?_append_left hid] at he
        have hn : id < g.n := by rw [← hi.len]; exact hid
        have := i1.hp id ho he
        refine this.mono hle2 hn (fun _ _ _ => rfl) (fun _ _ => rfl)
      · have hidn : id = g.n := by
          have := (List.getElem?_eq_some_iff.1 he).1
          simp at this
          have := hi.len
          omega
        rw [List.getElem?_append_right (by omega), hidn, hi.len] at he
        simp at he
        subst he
        subst hidn
        refine ⟨by simp [g'], fun el c2 h1 => ?_⟩
        match el, h1 with
        | 0, h1 =>
          simp at h1
          subst h1
          refine ⟨rfl, fun c av hav => ?_⟩
          have hc : c < vs.size := by rw [← hl]; exact (List.getElem?_eq_some_iff.1 hav).1
          obtain ⟨r1, r2⟩ := hr c av _ hav (Array.getElem?_eq_getElem hc)
          refine ⟨by simp [g', g1, G.at, f, hc], vs[c], by simp [g', cl_alloc, hc], r1.mono hle, ?_⟩
          exact r2.mono (fun b o i e cc hk => by
            show g1.K b o = _
            rw [at_K hi f (by rw [hk]; simp)]; exact hk)
        | el + 1, h1 => simp at h1
  · exact ⟨f1.sz, f1.ls, fun t av v h1 h2 => (f1.tm t av v h1 h2).mono hle2, fun t cs h1 => by
      obtain ⟨b, hb, hh⟩ := f1.lc t cs h1
      exact ⟨b, hb, fun j av hj => by obtain ⟨e1, v, e2, e3, e4⟩ := hh j av hj; exact ⟨e1, v, e2, e3.mono hle2, e4⟩⟩, f1.rg, f1.rk, f1.lv, f1.lk, f1.st⟩

end
end Go.PM

/- One operation of the machine against one of the reading: objects of the heap. -/
namespace Go.PM
section
variable {P : Program} {H : Hints} {B d : Nat} {g : G} {s : St} {tm : Array Value} {w : World} {L : Nat → Option Nat} {R : Rm}

theorem toHeap_part (live : List Nat) (c : AV) : c.part.toHeap live = c.toHeap live := by cases c <;> rfl

theorem toHeaps_part : ∀ (cs : List AV) (live : List Nat), toHeaps live (cs.map AV.part) = toHeaps live cs
  | [], _ => rfl
  | c :: cs, live => by simp [toHeaps, toHeap_part, toHeaps_part cs]

theorem toHeaps_val {hp : List HObj} (id el c0 : Nat) {k : Nat} {a : AV} {v : Value} (hk : k = s.tk) (h : RF g L R k a v) (h0 : 0 < a.cells.length) (hi : Inv B g hp w) (hf : FR g d s tm w L R) :
    ∃ g' R', Keep B d g w g' w ∧ Inv B g' hp w ∧ FR g' d { s with live := (toHeaps s.live a.cells).2 } tm w L R' ∧ (toHeaps s.live a.cells).1.length = v.cells.size ∧
      (∀ (i : Nat) c x, (toHeaps s.live a.cells).1[i]? = some c → v.cells[i]? = some x → RV g' c x ∧ Fl g' id el (c0 + i) c x) := by
  subst hk
  obtain ⟨n1, n2⟩ := cells_ok h h0
  obtain ⟨g', R', k1, i1, f1, l1, r1, o1, b1⟩ := toHeaps_ok (B := B) (d := d) (tm := tm) (L := L) id el (a.cells.map AV.part) v.cells.toList c0 g s R hi hf (by simp; omega) (fun i cc v e1 e2 => by
    simp only [List.getElem?_map, Option.map_eq_some_iff] at e1
    obtain ⟨c0, e1, rfl⟩ := e1
    exact n2 i c0 v e1 (by simpa using e2))
  rw [toHeaps_part] at f1 l1 r1
  exact ⟨g', R', k1, i1, f1, by rw [l1]; simp; omega, fun i c x e1 e2 => r1 i c x e1 (by simpa using e2)⟩

theorem op_store_ptr {o : Oper} {t : TypeId} {x y : Operand} {a c : Opd} {inf : TypeInfo} (ho : o.op = .store t x y) (hin : P.info? t = some inf) (h0 : 0 < inf.size) (hx : cOpd P 0 x = some a) (hy : cOpd P t y = some c)
    (hl : (ev s c).cells.length = inf.size) (h1 : (ev s c).cells.all AV.one = true) {id el off sz : Nat} (he : ev s a = .ptr id el off) {els : List (List AV)} (hob : s.heap[id]? = some (.arr sz els)) {cs cs' : List AV} (hcs : els[el]? = some cs)
    (hset : setc cs off (toHeaps s.live (ev s c).cells).1 = some cs') (hi : Inv B g s.heap w) (hf : FR g d s tm w L R) :
    ∃ w' g' R', (execOp (rho tm) o).run P w = .ok .skip w' ∧ Keep B d g w g' w' ∧ Inv B g' (s.heap.set id (.arr sz (els.set el cs'))) w' ∧
      FR g' d { s with live := (toHeaps s.live (ev s c).cells).2, heap := s.heap.set id (.arr sz (els.set el cs')) } tm w' L R' := by
  have hX := (opd_ok hx hf).1
  rw [he] at hX
  obtain ⟨hX, _⟩ := hX
  generalize hv : rho tm x = v at hX
  cases hX with
  | ptr _ _ _ hid =>
    have hY := (opd_ok hy hf).1
    have hsz : (rho tm y).cells.size = inf.size := by have := (cells_ok hY (by omega)).1; omega
    obtain ⟨g', R', k1, i1, f1, l1, r1⟩ := toHeaps_val (B := B) (d := d) id el off rfl hY (by omega) hi hf
    obtain ⟨i2, k2, hK⟩ := store_obj i1 hob hcs (vs := (rho tm y).cells.toList) hset (by simpa using l1) (by simp; omega) (fun i c v e1 e2 => r1 i c v e1 (by simpa using e2))
    have ha : g'.adr id = g.adr id := k1.le.adr id hid
    have hz : g'.osz id = g.osz id := k1.le.osz id hid
    rw [ha, hz] at i2 k2 hK
    have hrun := store_run (P := P) hin (w := w) (b := g.adr id) (o := el * g.osz id + off) hsz (ones hY (by omega) h1) (fun j hj => by
      have hk := hK j (by simpa using hj)
      exact ⟨i1.own _ _ (by rw [hk]; simp), i1.fz _ _ (by rw [hk]; simp) (by rw [hk]; simp)⟩)
    refine ⟨_, g', R', ?_, k1.trans k2, i2, (f1.write_obj hK).heap _ rfl rfl rfl rfl⟩
    simp [execOp, ho, hv, hrun]

theorem op_boxH {o : Oper} {e : TypeId} {x : Operand} {a : Opd} (ho : o.op = .box e x) (hx : cOpd P e x = some a) (h0 : 0 < (ev s a).cells.length)
    (hi : Inv B g s.heap w) (hf : FR g d s tm w L R) :
    ∃ v w', (execOp (rho tm) o).run P w = .ok (.value v) w' ∧
      Good B d g w { s with live := (toHeaps s.live (ev s a).cells).2, heap := s.heap ++ [.arr (ev s a).cells.length [(toHeaps s.live (ev s a).cells).1]] } tm (.ptr s.heap.length 0 0) v w' := by
  have hX := (opd_ok hx hf).1
  obtain ⟨g1, R1, k1, i1, f1, l1, r1⟩ := toHeaps_val (B := B) (d := d) g.n 0 0 rfl hX h0 hi hf
  have hn : g1.n = g.n := by rw [← i1.len, ← hi.len]
  obtain ⟨g2, k2, i2, f2, n2, a2, z2⟩ := new_obj (cs := (toHeaps s.live (ev s a).cells).1) (vs := (rho tm x).cells) i1 f1 e (by simpa using l1) (fun i c v e1 e2 => by
    have := r1 i c v e1 e2
    rw [hn]
    simpa using this)
  refine ⟨.pointer (some ⟨w.heap.size, 0, none⟩), w.alloc (.cells (rho tm x).cells e), by simp [execOp, ho, Instr.box, newVar_run], g2, L, R1, k1.trans k2, ?_, f2.heap _ rfl rfl rfl rfl, ⟨?_, trivial⟩, by intro t o e; cases e⟩
  · have hlen : (toHeaps s.live (ev s a).cells).1.length = (ev s a).cells.length := by
      have := (cells_ok hX h0).1; omega
    rw [hlen] at i2
    exact i2
  · have hsl : s.heap.length = g1.n := i1.len
    have := RV.ptr (g := g2) g1.n 0 0 n2
    rw [a2] at this
    rw [hsl]
    simpa using this

theorem op_allocH {o : Oper} {e : TypeId} {z : List AV} (ho : o.op = .alloc e) (hz : zeroC P e = some z) (h0 : 0 < z.length) (hi : Inv B g s.heap w) (hf : FR g d s tm w L R) :
    ∃ v w', (execOp (rho tm) o).run P w = .ok (.value v) w' ∧ Good B d g w { s with heap := s.heap ++ [.arr z.length [(toHeaps s.live z).1]] } tm (.ptr s.heap.length 0 0) v w' := by
  obtain ⟨i, v, h1, h2, h3, h4⟩ := zeroC_ok hz
  obtain ⟨h5, h6⟩ := mts_get (g := g) (R := R) (k := s.tk) h3
  obtain ⟨g1, R1, k1, i1, f1, l1, r1, o1, b1⟩ := toHeaps_ok (B := B) (d := d) (tm := tm) (L := L) g.n 0 z v.cells.toList 0 g s R hi hf h5 (fun i c v e1 e2 => ⟨(h6 i c v e1 e2).1, (h6 i c v e1 e2).2.1⟩)
  have hn : g1.n = g.n := by rw [← i1.len, ← hi.len]
  have hlive : (toHeaps s.live z).2 = s.live := by
    have : ∀ (cs : List AV) (vs : List Value) (live : List Nat), mts cs vs = true → (toHeaps live cs).2 = live := by
      intro cs
      induction cs with
      | nil => intro vs live _; rfl
      | cons c cs ih =>
        intro vs live h
        cases vs with
        | nil => simp [mts] at h
        | cons v vs =>
          simp only [mts, Bool.and_eq_true] at h
          simp only [toHeaps]
          have hc : (c.toHeap live).2 = live := by
            cases c <;> first | rfl | skip
            rename_i sz es own
            cases own <;> cases v <;> simp [mt1] at h
            simp [AV.toHeap, roomy, unlive]
          rw [hc]
          exact ih vs live h.2
    exact this z _ _ h3
  rw [hlive] at f1
  obtain ⟨g2, k2, i2, f2, n2, a2, z2⟩ := new_obj (cs := (toHeaps s.live z).1) (vs := v.cells) i1 f1 e (by rw [l1]; simpa using h5) (fun i c v e1 e2 => by
    have := r1 i c v e1 (by simpa using e2)
    rw [hn]
    simpa using this)
  refine ⟨.pointer (some ⟨w.heap.size, 0, none⟩), w.alloc (.cells v.cells e), ?_, g2, L, R1, k1.trans k2, ?_, f2.heap _ rfl rfl rfl rfl, ⟨?_, trivial⟩, by intro t o e; cases e⟩
  · simp [execOp, ho, Instr.alloc, zeroValue, typeInfo, h1, h2, newVar_run]
  · rw [l1] at i2
    exact i2
  · have hsl : s.heap.length = g1.n := i1.len
    have := RV.ptr (g := g2) g1.n 0 0 n2
    rw [a2] at this
    rw [hsl]
    simpa using this

/-- the spare cells of a slice -/
def spareOf (sz : Nat) (len : Nat) : Value → Nat × Nat × Nat
  | .slice (some a) _ cap => (a.block, a.off + len * sz, a.off + cap * sz)
  | _ => (0, 0, 0)

/-- a new room in a frame -/
theorem FR.gain (h : FR g d s tm w L R) (r : Nat × Nat × Nat) (hr : ∀ o, r.2.1 ≤ o → o < r.2.2 → g.K r.1 o = .tok d s.tk) :
    FR g d { s with live := s.tk :: s.live, tk := s.tk + 1 } tm w L (fun m => if m = s.tk then some r else R m) := by
  have hR : ∀ m q, (if m = s.tk then some r else R m) = some q → R m = some q ∨ s.tk ≤ m := by
    intro m q hq
    by_cases e : m = s.tk
    · exact .inr (by omega)
    · rw [if_neg e] at hq; exact .inl hq
  refine ⟨h.sz, h.ls, fun t av v h1 h2 => (h.tm t av v h1 h2).sub hR (Nat.le_succ _), fun t cs h1 => ?_, fun m b x e h1 o h2 h3 => ?_, fun m q hq => ?_, fun m hm => ?_, fun m hm => ?_, h.st⟩
  · obtain ⟨b, hb, hh⟩ := h.lc t cs h1
    refine ⟨b, hb, fun j av hj => ?_⟩
    obtain ⟨e1, v, e2, e3, e4⟩ := hh j av hj
    exact ⟨e1, v, e2, e3, e4.sub hR (Nat.le_succ _)⟩
  · by_cases e' : m = s.tk
    · subst e'
      simp at h1
      subst h1
      exact hr o h2 h3
    · rw [if_neg e'] at h1
      exact h.rg m b x e h1 o h2 h3
  · by_cases e' : m = s.tk
    · simp only; omega
    · rw [if_neg e'] at hq
      have := h.rk m q hq
      simp only; omega
  · simp only [List.mem_cons] at hm
    by_cases e' : m = s.tk
    · simp [e']
    · rw [if_neg e']
      exact h.lv m (hm.resolve_left e')
  · simp only [List.mem_cons] at hm
    rcases hm with e | e
    · simp only; omega
    · have := h.lk m e; simp only; omega

/-- values with the new room -/
theorem Tk_new {sz : Nat} {es : List (List AV)} {v : Value} {own : Own} (hr : RV g (.sl sz es own) v) (k : Nat) (R : Rm) : Tk (fun m => if m = k then some (spareOf sz es.length v) else R m) (k + 1) (.sl sz es (.tok k)) v := by
  refine ⟨Nat.lt_succ_self _, fun b x e h b' o len cap hv hlt => ?_⟩
  simp only [if_true, Option.some.injEq] at h
  subst hv
  simp only [spareOf, Prod.mk.injEq] at h
  obtain ⟨rfl, rfl, rfl⟩ := h
  exact ⟨rfl, Nat.le_refl _, Nat.le_refl _⟩

theorem op_take {o : Oper} {t : TypeId} {x : Operand} {a : Opd} {inf : TypeInfo} (ho : o.op = .load t x) (hag : isAggT P t = some false) (hin : P.info? t = some inf) (h1 : inf.size = 1)
    (hx : cOpd P 0 x = some a) {av : AV} {s' : St} (hs : takeAt s (ev s a) = some (av, s')) (hi : Inv B g s.heap w) (hf : FR g d s tm w L R) :
    ∃ v, (execOp (rho tm) o).run P w = .ok (.value v) w ∧ Good B d g w s' tm av v w := by
  have hX := (opd_ok hx hf).1
  generalize he : ev s a = e at hs hX
  cases e <;> simp only [takeAt, reduceCtorEq] at hs
  rename_i id el off
  obtain ⟨hX, _⟩ := hX
  generalize hv : rho tm x = pv at hX
  cases hX with
  | ptr _ _ _ hid =>
    split at hs
    · rename_i sz els hob
      split at hs
      · rename_i cs hcs
        split at hs
        · rename_i z es hoff
          simp only [Option.some.injEq, Prod.mk.injEq] at hs
          obtain ⟨rfl, rfl⟩ := hs
          obtain ⟨q1, q2⟩ := hi.hp id _ hob
          obtain ⟨q3, q4⟩ := q2 el cs hcs
          obtain ⟨p1, v, p2, p3, p4⟩ := q4 off _ hoff
          have hrun : (execOp (rho tm) o).run P w = .ok (.value v) w := by
            have hc : w.cell? ⟨g.adr id, el * g.osz id + off, none⟩ = some v := by rw [q1]; exact p2
            simp [execOp, ho, hv, Instr.loadAt, Instr.sureAddr, loadVar, isAgg_run hag, hc]
          have hxim : ∀ u, Kd.osp id el off ≠ .imm u := by simp
          let g1 := g.mv (.osp id el off) (.tok d s.tk)
          have hle : g.le g1 := mv_le hxim
          have hk1 : Keep B d g w g1 w := .mv hxim (by simp [Outer])
          have key : ∀ b o, g1.K b o ≠ .free → g.K b o ≠ .free := by
            intro b o hk e
            rw [mv_other (by rw [e]; simp)] at hk
            exact hk e
          have f1 : FR g1 d s tm w L R := by
            refine ⟨hf.sz, hf.ls, fun t av v h1 h2 => (hf.tm t av v h1 h2).mono hle, fun t cs h1 => ?_, fun n b x e h1 o h2 h3 => ?_, hf.rk, hf.lv, hf.lk, hf.st⟩
            · obtain ⟨b, hb, hh⟩ := hf.lc t cs h1
              refine ⟨b, hb, fun j av hj => ?_⟩
              obtain ⟨e1, v, e2, e3, e4⟩ := hh j av hj
              exact ⟨by rw [mv_other (by rw [e1]; simp)]; exact e1, v, e2, e3.mono hle, e4⟩
            · have := hf.rg n b x e h1 o h2 h3
              rw [mv_other (by rw [this]; simp)]; exact this
          have f2 := f1.gain (spareOf z es.length v) (fun o h2 h3 => by
            cases p3 with
            | sln _ _ a => cases a <;> simp [spareOf] at h2 h3 <;> omega
            | sl _ _ _ b oo cap val hc hz him hvv =>
              simp only [spareOf] at h2 h3 ⊢
              refine mv_same ?_
              have := p4 b oo es.length cap rfl (o - oo) (by omega) (by omega)
              rw [show oo + (o - oo) = o by omega] at this
              exact this)
          refine ⟨v, hrun, g1, L, _, hk1, ?_, f2.heap _ rfl rfl rfl rfl, ⟨(p3.mono hle).own, Tk_new (p3.mono hle) s.tk R⟩, by intro t o e; cases e⟩
          refine ⟨fun b o u hk => ?_, fun b o hk => hi.own b o (key b o hk), fun b o hk hn => hi.fz b o (key b o hk) (fun u e => hn u (hle.imm b o u e)), fun b o hb => ?_, hi.bs, by simp [hi.len, g1, G.mv], hi.inj, hi.lt, fun i ho' he' => ?_⟩
          · by_cases e : g.K b o = .osp id el off
            · rw [mv_same e] at hk; cases hk
            · rw [mv_other e] at hk; exact hi.imm b o u hk
          · rcases hi.low b o hb with e | ⟨u, e⟩
            · exact .inl (by rw [mv_other (by rw [e]; simp)]; exact e)
            · exact .inr ⟨u, hle.imm b o u e⟩
          · simp only [List.getElem?_set] at he'
            have obj1 : ∀ i ho', s.heap[i]? = some ho' → ∀ el' cs', (∃ z' els', ho' = .arr z' els' ∧ els'[el']? = some cs') → ∀ c av, cs'[c]? = some av → ¬ (i = id ∧ el' = el ∧ c = off) →
                g1.K (g1.adr i) (el' * g.osz i + c) = .obj i ∧ ∃ v, cl w (g1.adr i) (el' * g.osz i + c) = some v ∧ RV g1 av v ∧ Fl g1 i el' c av v := by
              rintro i ho' h el' cs' ⟨z', els', rfl, hel⟩ c av hav hne
              obtain ⟨u1, u2⟩ := hi.hp i _ h
              obtain ⟨u3, u4⟩ := u2 el' cs' hel
              obtain ⟨w1, u, w2, w3, w4⟩ := u4 c av hav
              rw [u1]
              refine ⟨by rw [show g1.adr i = g.adr i from rfl, mv_other (by rw [w1]; simp)]; exact w1, u, w2, w3.mono hle, ?_⟩
              cases av <;> first | exact trivial | skip
              rename_i sz' es' own'
              cases own' <;> first | exact trivial | skip
              intro b o len cap e k k1 k2
              have := w4 b o len cap e k k1 k2
              rw [mv_other (by rw [this]; simp only [ne_eq, Kd.osp.injEq]; exact hne)]; exact this
            by_cases ei : id = i
            · subst ei
              rw [if_pos rfl] at he'
              split at he'
              · cases he'
                refine ⟨q1, fun el' cs1 h1' => ?_⟩
                simp only [List.getElem?_set] at h1'
                by_cases ee : el = el'
                · subst ee
                  rw [if_pos rfl] at h1'
                  split at h1'
                  · cases h1'
                    refine ⟨by simp [q3], fun c av hav => ?_⟩
                    simp only [List.getElem?_set] at hav
                    by_cases ec : off = c
                    · subst ec
                      rw [if_pos rfl] at hav
                      split at hav
                      · cases hav
                        refine ⟨by rw [show g1.adr id = g.adr id from rfl, mv_other (by rw [p1]; simp)]; exact p1, v, p2, (p3.mono hle).own, trivial⟩
                      · cases hav
                    · rw [if_neg ec] at hav
                      have := obj1 id _ hob el cs ⟨sz, els, rfl, hcs⟩ c av hav (by intro h; exact ec h.2.2.symm)
                      rwa [q1] at this
                  · cases h1'
                · rw [if_neg ee] at h1'
                  refine ⟨(q2 el' cs1 h1').1, fun c av hav => ?_⟩
                  have := obj1 id _ hob el' cs1 ⟨sz, els, rfl, h1'⟩ c av hav (by intro h; exact ee h.2.1.symm)
                  rwa [q1] at this
              · cases he'
            · rw [if_neg ei] at he'
              cases ho' with
              | arr z' els' =>
                obtain ⟨u1, u2⟩ := hi.hp i _ he'
                refine ⟨u1, fun el' cs1 h1' => ⟨(u2 el' cs1 h1').1, fun c av hav => ?_⟩⟩
                have := obj1 i _ he' el' cs1 ⟨z', els', rfl, h1'⟩ c av hav (by intro h; exact ei h.1.symm)
                rwa [u1] at this
              | map es' => exact hi.hp i _ he'
              | dead => exact trivial
        · cases hs
      · cases hs
    · cases hs

end
end Go.PM

/- One operation of the machine against one of the reading: slices by their elements. -/
namespace Go.PM
section
variable {P : Program} {H : Hints} {B d : Nat} {g : G} {s : St} {tm : Array Value} {w : World} {L : Nat → Option Nat} {R : Rm}

/-- elements against the cells of a row -/
def ERs (g : G) (sz : Nat) (es : List (List AV)) (vs : Array Value) : Prop :=
  vs.size = es.length * sz ∧ (∀ (i : Nat) e, es[i]? = some e → e.length = sz) ∧
  ∀ (i : Nat) (e : List AV) (j : Nat) c, es[i]? = some e → e[j]? = some c → ∃ v, vs[i * sz + j]? = some v ∧ RV g c v

theorem fillE_ok {e : TypeId} {inf : TypeInfo} (h0 : 0 < inf.size) (hf : FR g d s tm w L R) :
    ∀ (ps : List (Nat × Operand)) (q : List (Nat × Opd)) (es : List (List AV)) (vs : Array Value) (es' : List (List AV)), cElems P e ps = some q → ERs g inf.size es vs →
      fillE inf.size es (q.map fun p => (p.1, ev s p.2)) = some es' →
      ∃ vs', Instr.fill (fun i => some (i * inf.size, inf.size)) vs (ps.map fun p => (p.1, rho tm p.2)) = some vs' ∧ ERs g inf.size es' vs' ∧ es'.length = es.length := by
  intro ps
  induction ps with
  | nil =>
    intro q es vs es' hq hc hfl
    simp [cElems] at hq
    subst hq
    simp [fillE] at hfl
    subst hfl
    exact ⟨vs, by simp [Instr.fill], hc, rfl⟩
  | cons p ps ih =>
    intro q es vs es' hq hc hfl
    obtain ⟨i, x⟩ := p
    simp only [cElems] at hq
    split at hq
    · rename_i a q' h2 h3
      cases hq
      simp only [List.map_cons, fillE] at hfl
      split at hfl
      · rename_i hcond
        obtain ⟨hlen, hil⟩ := hcond
        have hX := (opd_ok h2 hf).1
        obtain ⟨n1, n2⟩ := cells_ok hX (by omega)
        obtain ⟨c1, c2, c3⟩ := hc
        have hle : i * inf.size + inf.size ≤ vs.size := by
          rw [c1]
          have : (i + 1) * inf.size ≤ es.length * inf.size := Nat.mul_le_mul_right _ (by omega)
          rw [Nat.add_mul] at this; omega
        have hsz : (rho tm x).cells.size = inf.size := by omega
        obtain ⟨f1, f2⟩ := foldl_set (i * inf.size) (rho tm x).cells.toList 0 vs (by simp; omega)
        simp only [Nat.add_zero, Array.length_toList, hsz] at f2
        have hE : ERs g inf.size (es.set i ((ev s a).cells.map AV.nrm0)) ((rho tm x).cells.toList.zipIdx.foldl (fun (cs : Array Value) p => cs.setIfInBounds (i * inf.size + p.2) p.1) vs) := by
          refine ⟨by rw [f1]; simpa using c1, fun k e' he => ?_, fun k e' j c he hj => ?_⟩
          · simp only [List.getElem?_set] at he
            by_cases ek : i = k
            · subst ek
              simp only [if_true, hil] at he
              cases he
              simp [hlen]
            · rw [if_neg ek] at he
              exact c2 k e' he
          · simp only [List.getElem?_set] at he
            by_cases ek : i = k
            · subst ek
              simp only [if_true, hil] at he
              cases he
              simp only [List.getElem?_map, Option.map_eq_some_iff] at hj
              obtain ⟨c0, hj, rfl⟩ := hj
              have hjl : j < (rho tm x).cells.size := by rw [← n1]; exact (List.getElem?_eq_some_iff.1 hj).1
              obtain ⟨r1, _⟩ := n2 j c0 _ hj (Array.getElem?_eq_getElem hjl)
              refine ⟨(rho tm x).cells[j], ?_, ?_⟩
              · rw [f2, if_pos (by omega)]
                rw [show i * inf.size + j - i * inf.size = j by omega]
                simp
              · cases c0 <;> first | exact r1.nrm0 | exact .undef _
            · rw [if_neg ek] at he
              obtain ⟨v, v1, v2⟩ := c3 k e' j c he hj
              refine ⟨v, ?_, v2⟩
              rw [f2, if_neg]
              · exact v1
              · have hj' : j < inf.size := by rw [← c2 k e' he]; exact (List.getElem?_eq_some_iff.1 hj).1
                rcases Nat.lt_or_ge k i with h | h
                · have : (k + 1) * inf.size ≤ i * inf.size := Nat.mul_le_mul_right _ (by omega)
                  rw [Nat.add_mul] at this; omega
                · have : (i + 1) * inf.size ≤ k * inf.size := Nat.mul_le_mul_right _ (by omega)
                  rw [Nat.add_mul] at this; omega
        obtain ⟨vs', r1, r2, r3⟩ := ih q' _ _ es' h3 hE hfl
        refine ⟨vs', ?_, r2, by simpa using r3⟩
        simp only [List.map_cons, Instr.fill]
        rw [if_neg (by simp [hsz]; omega)]
        rw [← r1]
        congr 1
        rw [← Array.foldl_toList, Array.toList_zipIdx]
      · cases hfl
    · cases hq

/-- a new block that nobody will write -/
theorem new_imm (hi : Inv B g s.heap w) (hf : FR g d s tm w L R) (ty : TypeId) {sz : Nat} {es : List (List AV)} {vs : Array Value} (h : ERs g sz es vs) :
    ∃ g', Keep B d g w g' (w.alloc (.cells vs ty)) ∧ Inv B g' s.heap (w.alloc (.cells vs ty)) ∧ FR g' d s tm (w.alloc (.cells vs ty)) L R ∧
      RV g' (.sl sz es .exact) (.slice (some ⟨w.heap.size, 0, none⟩) es.length es.length) := by
  let f : Nat → Kd := fun o => match vs[o]? with | some v => .imm v | none => .free
  have hff : ∀ o, f o ≠ .free → o < vs.size := by
    intro o ho
    simp only [f] at ho
    split at ho
    · rename_i e; exact (Array.getElem?_eq_some_iff.1 e).1
    · exact absurd rfl ho
  have hfi : ∀ o v, f o = .imm v → vs[o]? = some v := by
    intro o v ho
    simp only [f] at ho
    split at ho <;> cases ho
    assumption
  obtain ⟨c1, c2, c3⟩ := h
  refine ⟨g.at w.heap.size f, .alloc hi vs ty f, hi.alloc vs ty f hff hfi, hf.alloc hi vs ty f, ?_⟩
  refine .sl sz es .exact w.heap.size 0 es.length (fun i j => (vs[i * sz + j]?).getD undef) (Nat.le_refl _) c2 (fun i e j av h1 h2 => ?_) (fun i e j av h1 h2 => ?_)
  · obtain ⟨v, v1, v2⟩ := c3 i e j av h1 h2
    simp [G.at, f, v1]
  · obtain ⟨v, v1, v2⟩ := c3 i e j av h1 h2
    simp only [v1, Option.getD_some]
    exact v2.mono (at_le hi f)

theorem op_bslice {o : Oper} {t e : TypeId} {len : Nat} {ps : Array (Nat × Operand)} {inf : TypeInfo} {z : List AV} {q : List (Nat × Opd)} (ho : o.op = .buildSlice t len ps)
    (hu : P.underlying t = some (.slice e)) (hin : P.info? e = some inf) (hz : zeroC P e = some z) (hq : cElems P e ps.toList = some q) (hle : len * inf.size ≤ 2 ^ 24) (h0 : 0 < inf.size)
    {es : List (List AV)} (hs : fillE inf.size (List.replicate len z) (q.map fun p => (p.1, ev s p.2)) = some es) (hi : Inv B g s.heap w) (hf : FR g d s tm w L R) :
    ∃ v w', (execOp (rho tm) o).run P w = .ok (.value v) w' ∧ Good B d g w s tm (.sl inf.size es .exact) v w' := by
  obtain ⟨i, v, h1, h2, h3, h4⟩ := zeroC_ok hz
  rw [hin] at h1
  cases h1
  obtain ⟨h5, h6⟩ := mts_get (g := g) (R := R) (k := s.tk) h3
  have hvs : v.cells.size = inf.size := by have : z.length = v.cells.size := by simpa using h5
                                           omega
  let row : Array Value := if len * inf.size = 0 then #[] else (Array.range (len * inf.size)).map (v.cells[· % v.cells.size]!)
  have hrow : row.size = len * inf.size := by
    simp only [row]
    split
    · rename_i h; simp [h]
    · simp
  have hE : ERs g inf.size (List.replicate len z) row := by
    refine ⟨by simp [hrow], fun i e' he => ?_, fun i e' j c he hj => ?_⟩
    · rw [List.getElem?_replicate] at he
      split at he
      · cases he; exact h4
      · cases he
    · rw [List.getElem?_replicate] at he
      split at he
      · rename_i hil
        cases he
        have hj' : j < inf.size := by rw [← h4]; exact (List.getElem?_eq_some_iff.1 hj).1
        have hjv : j < v.cells.size := by omega
        have hlt : i * inf.size + j < len * inf.size := by
          have : (i + 1) * inf.size ≤ len * inf.size := Nat.mul_le_mul_right _ (by omega)
          rw [Nat.add_mul] at this; omega
        refine ⟨v.cells[j], ?_, (h6 j c _ hj (by simp)).1⟩
        simp only [row]
        rw [if_neg (by omega)]
        have hmod : (i * inf.size + j) % inf.size = j := by
          rw [Nat.mul_comm, Nat.mul_add_mod]; exact Nat.mod_eq_of_lt hj'
        rw [Array.getElem?_map, Array.getElem?_range, if_pos hlt]
        simp only [Option.map_some, hvs, hmod, Option.some.injEq]
        exact getElem!_pos v.cells j hjv
      · cases he
  obtain ⟨vs', r1, r2, r3⟩ := fillE_ok (P := P) (e := e) h0 hf ps.toList q _ _ es hq hE hs
  have hlen : es.length = len := by simpa using r3
  obtain ⟨g', k1, i1, f1, rv⟩ := new_imm hi hf e r2
  refine ⟨.slice (some ⟨w.heap.size, 0, none⟩) len len, w.alloc (.cells vs' e), ?_, g', L, R, k1, i1, f1, ⟨by rw [← hlen]; exact rv, fun a l c e => by simp only [Value.slice.injEq] at e; rw [← e.2.2]; exact hlen.symm⟩, by intro t o e; cases e⟩
  have hps : (ps.map fun (i, x) => (i, rho tm x)).toList = ps.toList.map fun p => (p.1, rho tm p.2) := by simp
  have hnr : ∀ cs, (newRow e cs).run P w = .ok ⟨w.heap.size, 0, none⟩ (w.alloc (.cells cs e)) := by
    intro cs; simp only [newRow, Sem.run_bind, run_newObj, Result.andThen_ok, Sem.run_pure]; rfl
  by_cases hl0 : len * inf.size = 0
  · have hrow0 : row = #[] := by simp [row, hl0]
    rw [hrow0] at r1
    simp only [execOp, ho, Instr.buildSlice, Sem.run_bind, run_underlying hu, Result.andThen_ok, sizeOf_run hin]
    rw [if_neg (by omega)]
    have hz0 : (Array.range 0).map (fun x => (#[] : Array Value)[x % (#[] : Array Value).size]!) = #[] := by simp
    simp only [hl0, if_true, Sem.run_pure, Sem.run_bind, Result.andThen_ok, hps, hz0, r1, hnr]
  · have hrow1 : row = (Array.range (len * inf.size)).map (v.cells[· % v.cells.size]!) := by simp only [row]; rw [if_neg hl0]
    rw [hrow1] at r1
    simp only [execOp, ho, Instr.buildSlice, Sem.run_bind, run_underlying hu, Result.andThen_ok, sizeOf_run hin]
    rw [if_neg (by omega)]
    simp only [hl0, if_false, zeroValue, typeInfo, hin, h2, run_program, Sem.run_pure, Sem.run_bind, Result.andThen_ok, hps, r1, hnr]

end
end Go.PM
