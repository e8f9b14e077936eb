/- Regions that draw their order. -/
import Derived.Test.YtgaleaihhhdlgaaPm4
import Derived.Orders

set_option linter.unusedVariables false
set_option linter.unusedSimpArgs false

namespace Go.PM

def hide (U : List Nat) (loc : List (Option (List AV))) : List (Option (List AV)) := loc.mapIdx fun i x => if U.contains i then none else x

theorem hide_get (U : List Nat) (loc : List (Option (List AV))) (i : Nat) : (hide U loc)[i]? = (loc[i]?).map fun x => if U.contains i then none else x := by
  simp [hide]

theorem hide_out {U : List Nat} {loc : List (Option (List AV))} {i : Nat} (h : i ∉ U) : (hide U loc)[i]? = loc[i]? := by
  rw [hide_get]
  have : U.contains i = false := by simpa using h
  simp only [this, Bool.false_eq_true, if_false]
  cases loc[i]? <;> rfl

theorem hide_set {U : List Nat} {loc : List (Option (List AV))} {i : Nat} {x : Option (List AV)} (h : i ∉ U) : hide U (loc.set i x) = (hide U loc).set i x := by
  apply List.ext_getElem?
  intro j
  rw [hide_get, List.getElem?_set, List.getElem?_set, hide_get]
  by_cases e : i = j
  · subst e
    have : U.contains i = false := by simpa using h
    simp [this, hide]
    split <;> simp
  · simp [e]

def St.sub (s : St) (T : List AV) (U : List Nat) : St := { s with tmps := T, loc := hide U s.loc }

def ORes.sub (T : List AV) (U : List Nat) : ORes → ORes
  | .val v s => .val v (s.sub T U)
  | .skp s => .skp (s.sub T U)
  | .pan v s => .pan v (s.sub T U)

section
variable {s : St} {T : List AV} {U : List Nat}

theorem loadAt_sub {ag : Bool} {n : Nat} {x : AV} (h : ∀ t o, x = .lref t o → t ∉ U) : loadAt ag n (s.sub T U) x = loadAt ag n s x := by
  cases x <;> first | rfl | skip
  rename_i t o
  simp only [loadAt, St.sub]
  rw [hide_out (h t o rfl)]

theorem takeAt_sub {x : AV} : takeAt (s.sub T U) x = (takeAt s x).map fun p => (p.1, p.2.sub T U) := by
  cases x <;> first | rfl | skip
  simp only [takeAt, St.sub]
  (repeat' split) <;> rfl

theorem storeAt_sub {x : AV} {vs : List AV} (h : ∀ t o, x = .lref t o → t ∉ U) : storeAt (s.sub T U) x vs = (storeAt s x vs).map fun s' => s'.sub T U := by
  cases x <;> first | rfl | skip
  · simp only [storeAt, St.sub]
    (repeat' split) <;> first | rfl | (simp only [Option.map_map]; rfl)
  · rename_i t o
    simp only [storeAt, St.sub]
    rw [hide_out (h t o rfl)]
    split
    · rename_i cs hcs
      cases setc cs o (vs.map AV.part) with
      | none => rfl
      | some cs' => simp [hide_set (h t o rfl), St.sub]
    · rfl

theorem passA_sub (fl : List Nat) : ∀ (l : List AV) (i : Nat) (s : St), passA fl i (s.sub T U) l = (passA fl i s l).map fun p => (p.1, p.2.sub T U)
  | [], i, s => rfl
  | v :: l, i, s => by
    simp only [passA]
    split
    · split
      · rename_i sz es o
        have : roomy (s.sub T U).live o = roomy s.live o := rfl
        rw [this]
        split
        · have := passA_sub fl l (i + 1) { s with live := unlive s.live o }
          have e : ({ s.sub T U with live := unlive (s.sub T U).live o } : St) = ({ s with live := unlive s.live o } : St).sub T U := rfl
          rw [e, this]
          simp only [Option.map_map]; rfl
        · rfl
      · rfl
    · rw [passA_sub fl l (i + 1) s]
      simp only [Option.map_map]; rfl

theorem adopt1_sub (s : St) (v : AV) : adopt1 (s.sub T U) v = ((adopt1 s v).1, (adopt1 s v).2.sub T U) := by
  unfold adopt1; split <;> rfl

theorem adopts_sub : ∀ (l : List AV) (s : St), adopts (s.sub T U) l = ((adopts s l).1, (adopts s l).2.sub T U)
  | [], s => rfl
  | v :: l, s => by
    simp only [adopts, adopt1_sub, adopts_sub l]

theorem adopt_sub (s : St) (v : AV) : adopt (s.sub T U) v = ((adopt s v).1, (adopt s v).2.sub T U) := by
  unfold adopt
  split
  · simp only [adopts_sub]
  · exact adopt1_sub s _

/-- an operation does not see the slots that it does not read, nor variables that nobody there points to -/
theorem stepOp_sub {callF : CallF} {dst : Option Nat} {op : SOp} (hE : ∀ x ∈ opds op, ev (s.sub T U) x = ev s x) (hU : ∀ x ∈ opds op, ∀ t o, ev s x = .lref t o → t ∉ U) (hd : ∀ t, dst = some t → t ∉ U) :
    stepOp callF dst op (s.sub T U) = (stepOp callF dst op s).map (ORes.sub T U) := by
  have hm : ∀ l : List Opd, (∀ x ∈ l, x ∈ opds op) → l.map (ev (s.sub T U)) = l.map (ev s) := fun l h => List.map_congr_left fun x hx => hE x (h x hx)
  cases op <;> simp only [opds, List.mem_cons, List.not_mem_nil, or_false, forall_eq_or_imp, forall_eq] at hE hU <;> simp only [stepOp]
  case load ag n a tk =>
    rw [hE]
    cases tk with
    | true => rw [takeAt_sub]; simp only [Option.map_map]; rfl
    | false => simp only []; rw [loadAt_sub hU]; simp only [Option.map_map]; rfl
  case store n a x =>
    rw [hE.1, hE.2]
    split
    · rw [storeAt_sub hU.1]; simp only [Option.map_map]; rfl
    · rfl
  case allocL z =>
    cases dst with
    | none => rfl
    | some d =>
      simp only [St.sub]
      rw [hide_out (hd d rfl)]
      split
      · simp [ORes.sub, St.sub, hide_set (hd d rfl)]
      · rfl
  case boxL sz x =>
    rw [hE]
    cases dst with
    | none => rfl
    | some d =>
      simp only [St.sub]
      rw [hide_out (hd d rfl)]
      split
      · split
        · simp [ORes.sub, St.sub, hide_set (hd d rfl)]
        · rfl
      · rfl
  case build z ps =>
    have e : (ps.map fun p => (p.1, p.2.1, ev (s.sub T U) p.2.2)) = ps.map fun p => (p.1, p.2.1, ev s p.2.2) := List.map_congr_left fun p hp => by rw [hE p.2.2 (List.mem_map.2 ⟨p, hp, rfl⟩)]
    rw [e]; simp only [Option.map_map]; rfl
  case bslice sz z len ps =>
    have e : (ps.map fun p => (p.1, ev (s.sub T U) p.2)) = ps.map fun p => (p.1, ev s p.2) := List.map_congr_left fun p hp => by rw [hE p.2 (List.mem_map.2 ⟨p, hp, rfl⟩)]
    rw [e]; simp only [Option.map_map]; rfl
  case mkfn f a b =>
    have e1 : a.map (ev (s.sub T U)) = a.map (ev s) := List.map_congr_left fun x hx => hE x (List.mem_append_left _ hx)
    have e2 : b.map (ev (s.sub T U)) = b.map (ev s) := List.map_congr_left fun x hx => hE x (List.mem_append_right _ hx)
    rw [e1, e2]; rfl
  case mnmx m xs =>
    have e1 : xs.map (ev (s.sub T U)) = xs.map (ev s) := List.map_congr_left fun x hx => hE x hx
    rw [e1]; simp only [Option.map_map]; rfl
  case slice z x lo hi mx =>
    have e0 : ∀ y : Option Opd, (∀ q ∈ y.toList, ev (s.sub T U) q = ev s q) → y.map (ev (s.sub T U)) = y.map (ev s) := by
      intro y h
      cases y with
      | none => rfl
      | some q => simp [h q (by simp)]
    rw [hE.1, e0 lo (fun q h => hE.2 q (by simp [h])), e0 hi (fun q h => hE.2 q (by simp [h])), e0 mx (fun q h => hE.2 q (by simp [h]))]
    simp only [Option.map_map]; rfl
  case call f args fl =>
    have e1 : args.map (ev (s.sub T U)) = args.map (ev s) := List.map_congr_left fun x hx => hE.2 x hx
    rw [hE.1, e1]
    split
    · rw [passA_sub]
      cases passA fl 0 s (args.map (ev s)) with
      | none => rfl
      | some p =>
        simp only [Option.map_some]
        have : (p.2.sub T U).heap = p.2.heap := rfl
        rw [this]
        split
        · rename_i r h hcf
          have e : ({ p.2.sub T U with heap := h } : St) = ({ p.2 with heap := h } : St).sub T U := rfl
          rw [e, adopt_sub]; rfl
        · rfl
        · rfl
    · rfl
  case rcall f args =>
    have e1 : args.map (ev (s.sub T U)) = args.map (ev s) := List.map_congr_left fun x hx => hE.2 x hx
    rw [hE.1, e1]
    split
    · simp only [Option.map_map]; rfl
    · rfl
  case dfr f args =>
    have e1 : args.map (ev (s.sub T U)) = args.map (ev s) := List.map_congr_left fun x hx => hE.2 x hx
    rw [hE.1, e1]
    split <;> rfl
  case recover =>
    have : (s.sub T U).pan = s.pan := rfl
    rw [this]
    (repeat' split) <;> rfl
  case allocH z => rfl
  case append sz x y =>
    have h1 : (s.sub T U).live = s.live := rfl
    rw [hE.1, hE.2, h1]
    split
    · split
      · split
        · split <;> rfl
        · split <;> rfl
        · rfl
      · rfl
    · rfl
  all_goals
    first
      | (simp only [hE]; first | rfl | (simp only [Option.map_map]; rfl) | ((repeat' split) <;> first | rfl | (simp only [Option.map_map]; rfl)))

end
end Go.PM

/- What stands ahead of what, in a region that draws its order. -/
namespace Go.PM

def edgeF (acc : Array Nat) (s : Nat) (e : Edge) : Nat := if Region.binds .any e then s ||| 2 ^ e.on ||| acc.getD e.on 0 else s
def befF (acc : Array Nat) (o : Oper) : Nat := o.after.toList.foldl (edgeF acc) 0

theorem fold_bit (acc : Array Nat) (i : Nat) : ∀ (l : List Edge) (s : Nat), (l.foldl (edgeF acc) s).testBit i = true → s.testBit i = true ∨ ∃ e, e ∈ l ∧ Region.binds .any e = true ∧ (e.on = i ∨ (acc.getD e.on 0).testBit i = true)
  | [], s, h => .inl h
  | e :: l, s, h => by
    rcases fold_bit acc i l (edgeF acc s e) h with h | ⟨e', h1, h2⟩
    · unfold edgeF at h
      split at h
      · rename_i hb
        simp only [Nat.testBit_or, Bool.or_eq_true, Nat.testBit_two_pow, decide_eq_true_eq] at h
        rcases h with (h | h) | h
        · exact .inl h
        · exact .inr ⟨e, List.mem_cons_self .., hb, .inl h⟩
        · exact .inr ⟨e, List.mem_cons_self .., hb, .inr h⟩
      · exact .inl h
    · exact .inr ⟨e', List.mem_cons_of_mem _ h1, h2⟩

theorem before_list : ∀ (os : List Oper) (acc : Array Nat), (∀ j, j < acc.size → (os.foldl (fun acc o => acc.push (befF acc o)) acc)[j]? = acc[j]?) ∧
    ∀ (k : Nat) o, os[k]? = some o → ∃ acc' : Array Nat, acc'.size = acc.size + k ∧ (∀ j, j < acc'.size → (os.foldl (fun acc o => acc.push (befF acc o)) acc)[j]? = acc'[j]?) ∧
      (os.foldl (fun acc o => acc.push (befF acc o)) acc)[acc.size + k]? = some (befF acc' o)
  | [], acc => ⟨fun _ _ => rfl, fun k o h => by simp at h⟩
  | x :: os, acc => by
    obtain ⟨h1, h2⟩ := before_list os (acc.push (befF acc x))
    simp only [List.foldl_cons]
    have hpre : ∀ j, j < acc.size → (os.foldl (fun acc o => acc.push (befF acc o)) (acc.push (befF acc x)))[j]? = acc[j]? := by
      intro j hj
      rw [h1 j (by simp; omega), Array.getElem?_push]
      rw [if_neg (by omega)]
    refine ⟨hpre, fun k o h => ?_⟩
    cases k with
    | zero =>
      simp at h
      subst h
      refine ⟨acc, by simp, hpre, ?_⟩
      rw [Nat.add_zero, h1 acc.size (by simp)]
      simp
    | succ k =>
      simp at h
      obtain ⟨acc', a1, a2, a3⟩ := h2 k o h
      refine ⟨acc', by simp at a1; omega, a2, ?_⟩
      simp only [Array.size_push] at a3
      rwa [show acc.size + (k + 1) = acc.size + 1 + k by omega]

theorem before_eq (ops : Array Oper) : Region.before ops = ops.toList.foldl (fun acc o => acc.push (befF acc o)) #[] := by
  unfold Region.before
  rw [← Array.foldl_toList]
  congr 1
  funext acc o
  congr 1
  unfold befF
  rw [← Array.foldl_toList]
  rfl

/-- what stands ahead of j stands there by an edge, or by what stands ahead of an edge's end -/
theorem bef_cases {ops : Array Oper} {i j : Nat} (h : bef (Region.before ops) i j = true) :
    ∃ o, ops[j]? = some o ∧ ∃ e, e ∈ o.after.toList ∧ Region.binds .any e = true ∧ (e.on = i ∨ (e.on < j ∧ bef (Region.before ops) i e.on = true)) := by
  rw [before_eq] at h ⊢
  obtain ⟨_, h2⟩ := before_list ops.toList #[]
  unfold bef at h
  cases ho : ops[j]? with
  | none =>
    exfalso
    have hlen : ∀ (os : List Oper) (acc : Array Nat), (os.foldl (fun acc o => acc.push (befF acc o)) acc).size = acc.size + os.length := by
      intro os
      induction os with
      | nil => intro acc; simp
      | cons x os ih => intro acc; simp [ih]; omega
    have hs := hlen ops.toList #[]
    have hj : ops.size ≤ j := by simpa using ho
    rw [Array.getD_eq_getD_getElem?, Array.getElem?_eq_none (by rw [hs]; simpa using hj)] at h
    simp at h
  | some o =>
    obtain ⟨acc', a1, a2, a3⟩ := h2 j o (by simpa using ho)
    simp only [Array.size_empty, Nat.zero_add] at a1 a3
    rw [Array.getD_eq_getD_getElem?, a3] at h
    rcases fold_bit acc' i _ _ h with h | ⟨e, e1, e2, e3⟩
    · simp at h
    · refine ⟨o, rfl, e, e1, e2, ?_⟩
      rcases e3 with e3 | e3
      · exact .inl e3
      · by_cases hlt : e.on < acc'.size
        · refine .inr ⟨by omega, ?_⟩
          unfold bef
          rw [Array.getD_eq_getD_getElem?, a2 _ hlt, ← Array.getD_eq_getD_getElem?]
          exact e3
        · rw [Array.getD_eq_getD_getElem?, Array.getElem?_eq_none (by omega)] at e3
          simp at e3

end Go.PM

/- The local variables of a region that draws come first. -/
namespace Go.PM

/-- the slots of the local variables that a region makes -/
def allocs (l : List SOper) : List Nat := (l.filter fun o => isAllocL o.op).filterMap (·.dst)

theorem preAlloc_ok {callF : CallF} : ∀ (l : List SOper) (s s1 : St), preAlloc callF l s = some s1 →
    s1.heap = s.heap ∧ s1.live = s.live ∧ s1.tk = s.tk ∧ s1.defers = s.defers ∧ s1.pan = s.pan ∧ s1.recd = s.recd ∧
    s1.tmps.length = s.tmps.length ∧ s1.loc.length = s.loc.length ∧
    (∀ t, t ∉ allocs l → s1.tmps[t]? = s.tmps[t]? ∧ s1.loc[t]? = s.loc[t]?) ∧
    (∀ t, t ∈ allocs l → s.loc[t]? = some none)
  | [], s, s1, h => by
    simp only [preAlloc, Option.some.injEq] at h
    subst h
    exact ⟨rfl, rfl, rfl, rfl, rfl, rfl, rfl, rfl, fun t _ => ⟨rfl, rfl⟩, fun t ht => by simp [allocs] at ht⟩
  | o :: l, s, s1, h => by
    simp only [preAlloc] at h
    split at h
    · rename_i ha hg
      split at h
      · rename_i v s2 hst
        obtain ⟨z, hz⟩ : ∃ z, o.op = .allocL z := by
          cases ho : o.op <;> rw [ho] at ha <;> simp [isAllocL] at ha
          exact ⟨_, rfl⟩
        rw [hz] at hst
        simp only [stepOp] at hst
        cases hd : o.dst with
        | none => rw [hd] at hst; cases hst
        | some t0 =>
          rw [hd] at hst h
          simp only [] at hst
          split at hst
          · rename_i hl
            cases hst
            obtain ⟨a1, a2, a3, a4, a5, a6, a7, a8, a9, a10⟩ := preAlloc_ok l _ s1 h
            have hmem : ∀ t, t ∈ allocs (o :: l) ↔ t = t0 ∨ t ∈ allocs l := by
              intro t
              simp [allocs, ha, hd]
            refine ⟨a1, a2, a3, a4, a5, a6, by simpa [St.put] using a7, by simpa [St.put] using a8, fun t ht => ?_, fun t ht => ?_⟩
            · rw [hmem] at ht
              have h1 : t0 ≠ t := fun e => ht (.inl e.symm)
              obtain ⟨b1, b2⟩ := a9 t (fun e => ht (.inr e))
              exact ⟨by rw [b1]; simp [St.put, List.getElem?_set, h1], by rw [b2]; simp [St.put, List.getElem?_set, h1]⟩
            · rw [hmem] at ht
              by_cases e : t = t0
              · subst e; exact hl
              · have := a10 t (ht.resolve_left e)
                simpa [St.put, List.getElem?_set, Ne.symm e] using this
          · cases hst
      · cases h
    · cases h
    · rename_i ha
      obtain ⟨a1, a2, a3, a4, a5, a6, a7, a8, a9, a10⟩ := preAlloc_ok l s s1 h
      have hmem : allocs (o :: l) = allocs l := by simp [allocs, ha]
      rw [hmem]
      exact ⟨a1, a2, a3, a4, a5, a6, a7, a8, a9, a10⟩

end Go.PM

/- The run of a region that draws its order, place by place. -/
namespace Go.PM

/-- all but the slots -/
def St.core (s : St) : St := { s with tmps := [] }
theorem core_put (s : St) (dst : Option Nat) (v : AV) : (s.put dst v).core = s.core := by cases dst <;> rfl

theorem readAt_core {callF : CallF} {s s2 : St} (h : s.core = s2.core) (q : Rq) : readAt callF s q = readAt callF s2 q := by
  have h1 : s.loc = s2.loc := (congrArg St.loc h : s.core.loc = s2.core.loc)
  have h2 : s.heap = s2.heap := (congrArg St.heap h : s.core.heap = s2.core.heap)
  cases q with
  | ld a ag n => simp only [readAt]; cases a <;> simp only [loadAt] <;> first | rfl | rw [h1] | rw [h2]
  | rc g args => simp only [readAt, h2]

def nxt (callF : CallF) (o : SOper) (s : St) : St :=
  if isAllocL o.op then s else
  match wantedS s o.guard with
  | some true => match stepOp callF o.dst o.op s with
    | some (.val v s') => s'.put o.dst v
    | some (.skp s') => s'.put o.dst (.tup [])
    | _ => s
  | _ => s.put o.dst (.tup [])

def stAt (callF : CallF) (L : List SOper) (s1 : St) : Nat → St
  | 0 => s1
  | i + 1 => match L[i]? with
    | some o => nxt callF o (stAt callF L s1 i)
    | none => stAt callF L s1 i

/-- how many effects stand ahead -/
def kOf (L : List SOper) (j : Nat) : Nat := (effs (L.take j)).length

theorem effs_append (a b : List SOper) : effs (a ++ b) = effs a ++ ((b.zipIdx a.length).filter fun p => effect p.1.op).map (·.2) := by
  unfold effs; rw [List.zipIdx_append]; simp

theorem kOf_succ {L : List SOper} {i : Nat} {o : SOper} (h : L[i]? = some o) : kOf L (i + 1) = kOf L i + if effect o.op then 1 else 0 := by
  unfold kOf
  have hlt := (List.getElem?_eq_some_iff.1 h).1
  have he : L.take (i + 1) = L.take i ++ [o] := by
    rw [List.take_add_one, h]; rfl
  rw [he, effs_append]
  by_cases hh : effect o.op = true <;> simp [hh]

theorem kOf_mono {L : List SOper} {i j : Nat} (h : i ≤ j) : kOf L i ≤ kOf L j := by
  unfold kOf
  obtain ⟨m, rfl⟩ := Nat.le.dest h
  rw [List.take_add, effs_append]; simp

theorem mem_effs {L : List SOper} {j : Nat} : j ∈ effs L ↔ ∃ o, L[j]? = some o ∧ effect o.op = true := by
  unfold effs
  simp only [List.mem_map, List.mem_filter]
  constructor
  · rintro ⟨⟨o, k⟩, ⟨h1, h2⟩, rfl⟩
    exact ⟨o, by simpa [List.mem_zipIdx_iff_getElem?] using h1, h2⟩
  · rintro ⟨o, h1, h2⟩
    exact ⟨(o, j), ⟨by simpa [List.mem_zipIdx_iff_getElem?] using h1, h2⟩, rfl⟩

theorem kOf_filter (L : List SOper) (j : Nat) : kOf L j = ((effs L).filter fun e => decide (e < j)).length := by
  unfold kOf
  conv => rhs; rw [← List.take_append_drop j L, effs_append]
  rw [List.filter_append]
  have h1 : (effs (L.take j)).filter (fun e => decide (e < j)) = effs (L.take j) := by
    apply List.filter_eq_self.2
    intro e he
    obtain ⟨o, h1, _⟩ := mem_effs.1 he
    have := (List.getElem?_eq_some_iff.1 h1).1
    simp only [decide_eq_true_eq]
    simp at this; omega
  have h2 : ((((L.drop j).zipIdx (L.take j).length).filter fun p => effect p.1.op).map (·.2)).filter (fun e => decide (e < j)) = [] := by
    apply List.filter_eq_nil_iff.2
    intro e he
    simp only [List.mem_map, List.mem_filter] at he
    obtain ⟨⟨o, k⟩, ⟨h1, _⟩, rfl⟩ := he
    have h3 := List.mem_zipIdx h1
    by_cases hj : j ≤ L.length
    · have : (L.take j).length = j := by simp [hj]
      simp only [decide_eq_true_eq]; omega
    · have : (L.drop j) = [] := List.drop_eq_nil_of_le (by omega)
      rw [this] at h1; simp at h1
  rw [h1, h2, List.append_nil]

/-! ### what operations of each kind do -/

theorem stepOp_pan_effect {callF : CallF} {dst : Option Nat} {op : SOp} {s s2 : St} {v : AV} (h : stepOp callF dst op s = some (.pan v s2)) : effect op = true := by
  cases op <;> simp only [stepOp] at h <;> first | rfl | skip
  case load ag n a tk => cases tk <;> simp only [Option.map_eq_some_iff] at h <;> obtain ⟨_, _, h⟩ := h <;> cases h
  all_goals
    first
      | (simp only [Option.map_eq_some_iff] at h; obtain ⟨_, _, h⟩ := h; cases h; done)
      | ((repeat' split at h) <;> first | (simp only [Option.map_eq_some_iff] at h; obtain ⟨_, _, h⟩ := h; cases h; done) | (simp at h; done))

theorem stepOp_quiet {callF : CallF} {dst : Option Nat} {op : SOp} {s : St} {r : ORes} (he : effect op = false) (ha : isAllocL op = false) (h : stepOp callF dst op s = some r) : ∃ v, r = .val v s := by
  cases op <;> simp only [effect, isAllocL, Bool.true_eq_false] at he ha <;> simp only [stepOp] at h
  case load ag n a tk =>
    subst he
    simp only [Option.map_eq_some_iff] at h; obtain ⟨x, _, rfl⟩ := h; exact ⟨_, rfl⟩
  all_goals
    first
      | (simp only [Option.map_eq_some_iff] at h; obtain ⟨_, _, rfl⟩ := h; exact ⟨_, rfl⟩)
      | ((repeat' split at h) <;> first | (simp only [Option.map_eq_some_iff] at h; obtain ⟨_, _, rfl⟩ := h; exact ⟨_, rfl⟩) | (simp only [Option.some.injEq] at h; subst h; exact ⟨_, rfl⟩) | (simp at h; done))

theorem stepOp_read {callF : CallF} {dst : Option Nat} {op : SOp} {s : St} {q : Rq} (h : readOf s op = some q) : stepOp callF dst op s = (readAt callF s q).map fun a => .val a s := by
  cases op <;> simp only [readOf, reduceCtorEq] at h
  case load ag n a tk =>
    cases tk <;> simp only [reduceCtorEq] at h
    cases h
    rfl
  case rcall f args =>
    split at h
    · rename_i g first caps hf
      cases h
      simp only [stepOp, hf, readAt]
    · cases h

/-- an operation that neither reads nor writes -/
theorem stepOp_unread {callF : CallF} {dst : Option Nat} {op : SOp} {s s2 : St} {v : AV} (he : effect op = false) (ha : isAllocL op = false) (hr : readOf s op = none) (h : stepOp callF dst op s = some (.val v s))
    (hE : ∀ x ∈ opds op, ev s2 x = ev s x) : stepOp callF dst op s2 = some (.val v s2) := by
  have hm : ∀ l : List Opd, (∀ x ∈ l, x ∈ opds op) → l.map (ev s2) = l.map (ev s) := fun l h => List.map_congr_left fun x hx => hE x (h x hx)
  cases op <;> simp only [effect, isAllocL, Bool.true_eq_false] at he ha <;> simp only [opds, List.mem_cons, List.not_mem_nil, or_false, forall_eq_or_imp, forall_eq] at hE <;> simp only [stepOp] at h ⊢
  case load ag n a tk =>
    subst he
    simp [readOf] at hr
  case rcall f args =>
    simp only [readOf] at hr
    split at hr
    · cases hr
    · rename_i hno
      split at h
      · rename_i g first caps hf
        exact absurd hf (hno g first caps)
      · cases h
  case build z ps =>
    have e : (ps.map fun p => (p.1, p.2.1, ev s2 p.2.2)) = ps.map fun p => (p.1, p.2.1, ev s p.2.2) := List.map_congr_left fun p hp => by rw [hE p.2.2 (List.mem_map.2 ⟨p, hp, rfl⟩)]
    rw [e]
    simp only [Option.map_eq_some_iff] at h ⊢
    obtain ⟨x, h1, h2⟩ := h
    cases h2
    exact ⟨_, h1, rfl⟩
  case bslice sz z len ps =>
    have e : (ps.map fun p => (p.1, ev s2 p.2)) = ps.map fun p => (p.1, ev s p.2) := List.map_congr_left fun p hp => by rw [hE p.2 (List.mem_map.2 ⟨p, hp, rfl⟩)]
    rw [e]
    simp only [Option.map_eq_some_iff] at h ⊢
    obtain ⟨x, h1, h2⟩ := h
    cases h2
    exact ⟨_, h1, rfl⟩
  case mkfn f a b =>
    have e1 : a.map (ev s2) = a.map (ev s) := List.map_congr_left fun x hx => hE x (List.mem_append_left _ hx)
    have e2 : b.map (ev s2) = b.map (ev s) := List.map_congr_left fun x hx => hE x (List.mem_append_right _ hx)
    rw [e1, e2]
    cases h; rfl
  case mnmx m xs =>
    have e1 : xs.map (ev s2) = xs.map (ev s) := List.map_congr_left fun x hx => hE x hx
    rw [e1]
    simp only [Option.map_eq_some_iff] at h ⊢
    obtain ⟨x, h1, h2⟩ := h
    cases h2
    exact ⟨_, h1, rfl⟩
  case slice z x lo hi mx =>
    have e0 : ∀ y : Option Opd, (∀ q ∈ y.toList, ev s2 q = ev s q) → y.map (ev s2) = y.map (ev s) := by
      intro y h
      cases y with
      | none => rfl
      | some q => simp [h q (by simp)]
    rw [hE.1, e0 lo (fun q h => hE.2 q (by simp [h])), e0 hi (fun q h => hE.2 q (by simp [h])), e0 mx (fun q h => hE.2 q (by simp [h]))]
    simp only [Option.map_eq_some_iff] at h ⊢
    obtain ⟨y, h1, h2⟩ := h
    cases h2
    exact ⟨_, h1, rfl⟩
  all_goals
    simp only [hE]
    first
      | (simp only [Option.map_eq_some_iff] at h ⊢; obtain ⟨x, h1, h2⟩ := h; cases h2; exact ⟨_, h1, rfl⟩)
      | (cases h; rfl)
      | ((repeat' split at h) <;> first | (cases h; done) | (simp_all; done) | (simp only [Option.map_eq_some_iff] at h; obtain ⟨x, h1, h2⟩ := h; cases h2; simp_all; done))

theorem passA_loc (fl : List Nat) : ∀ (l : List AV) (i : Nat) (s s1 : St) (as_ : List AV), passA fl i s l = some (as_, s1) → s1.loc = s.loc := by
  intro l
  induction l with
  | nil =>
    intro i s s1 as_ h
    simp only [passA, Option.some.injEq, Prod.mk.injEq] at h
    rw [h.2]
  | cons a l ih =>
    intro i s s1 as_ h
    simp only [passA] at h
    (repeat' split at h) <;> first | (cases h; done) | skip
    all_goals
      rw [Option.map_eq_some_iff] at h
      obtain ⟨⟨q, s2⟩, h, e⟩ := h
      cases e
      have := ih _ _ _ _ h
      exact this

theorem adopt1_loc (s : St) (x : AV) : (adopt1 s x).2.loc = s.loc := by unfold adopt1; split <;> rfl
theorem adopts_loc : ∀ (l : List AV) (s : St), (adopts s l).2.loc = s.loc
  | [], s => rfl
  | v :: l, s => by simp only [adopts]; rw [adopts_loc l, adopt1_loc]
theorem adopt_loc (s : St) (x : AV) : (adopt s x).2.loc = s.loc := by
  unfold adopt; split
  · exact adopts_loc _ s
  · exact adopt1_loc s _

theorem takeAt_loc {s s' : St} {x v : AV} (h : takeAt s x = some (v, s')) : s'.loc = s.loc := by
  unfold takeAt at h
  (repeat' split at h) <;> simp at h
  obtain ⟨_, rfl⟩ := h
  rfl

theorem storeAt_loc {s s' : St} {x : AV} {vs : List AV} (h : storeAt s x vs = some s') {t : Nat} (hx : ∀ o, x ≠ .lref t o) : s'.loc[t]? = s.loc[t]? := by
  unfold storeAt at h
  split at h
  · rename_i t' off
    split at h
    · rw [Option.map_eq_some_iff] at h
      obtain ⟨cs, _, rfl⟩ := h
      have : t' ≠ t := fun e => hx off (by rw [e])
      simp [List.getElem?_set, this]
    · cases h
  · split at h
    · split at h
      · rw [Option.map_eq_some_iff] at h
        obtain ⟨cs, _, rfl⟩ := h
        rfl
      · cases h
    · cases h
  · cases h

/-- where a variable of the frame may change -/
theorem stepOp_loc {callF : CallF} {dst : Option Nat} {op : SOp} {s s' : St} {r : ORes} (h : stepOp callF dst op s = some r) (hr : (∃ v, r = .val v s') ∨ r = .skp s') {t : Nat} (hd : dst ≠ some t)
    (hU : ∀ x ∈ opds op, ∀ o, ev s x ≠ .lref t o) : s'.loc[t]? = s.loc[t]? := by
  cases op <;> simp only [opds, List.mem_cons, List.not_mem_nil, or_false, forall_eq_or_imp, forall_eq] at hU <;> simp only [stepOp] at h
  case load ag n a tk =>
    cases tk <;> simp only [Option.map_eq_some_iff] at h
    · obtain ⟨_, _, rfl⟩ := h
      rcases hr with ⟨v, e⟩ | e <;> cases e; rfl
    · obtain ⟨⟨x, s2⟩, h, rfl⟩ := h
      rcases hr with ⟨v, e⟩ | e <;> cases e; rw [takeAt_loc h]
  case store n a x =>
    split at h
    · rw [Option.map_eq_some_iff] at h
      obtain ⟨s2, h, rfl⟩ := h
      rcases hr with ⟨v, e⟩ | e <;> cases e
      exact storeAt_loc h hU.1
    · cases h
  case allocL z =>
    split at h
    · rename_i d
      have : d ≠ t := fun e => hd (by rw [e])
      split at h
      · cases h
        rcases hr with ⟨v, e⟩ | e <;> cases e
        simp [List.getElem?_set, this]
      · cases h
    · cases h
  case boxL sz x =>
    split at h
    · rename_i d
      have : d ≠ t := fun e => hd (by rw [e])
      split at h
      · split at h
        · cases h
          rcases hr with ⟨v, e⟩ | e <;> cases e
          simp [List.getElem?_set, this]
        · cases h
      · cases h
    · cases h
  case call f args fl =>
    split at h
    · split at h
      · rename_i as_ s1 hpa
        have hp := passA_loc _ _ _ _ _ _ hpa
        split at h
        · cases h
          rcases hr with ⟨v, e⟩ | e <;> cases e
          rw [adopt_loc]; exact congrArg (·[t]?) hp
        · cases h; rcases hr with ⟨v, e⟩ | e <;> cases e
        · cases h
      · cases h
    · cases h
  all_goals
    first
      | (simp only [Option.map_eq_some_iff] at h; obtain ⟨_, _, rfl⟩ := h; rcases hr with ⟨v, e⟩ | e <;> cases e; rfl)
      | (cases h; rcases hr with ⟨v, e⟩ | e <;> cases e; rfl)
      | ((repeat' split at h) <;> first | (cases h; rcases hr with ⟨v, e⟩ | e <;> cases e; rfl) | (cases h; rcases hr with ⟨v, e⟩ | e <;> cases e; done) | (simp only [Option.map_eq_some_iff] at h; obtain ⟨_, _, rfl⟩ := h; rcases hr with ⟨v, e⟩ | e <;> cases e; rfl) | (simp at h; done))

end Go.PM

/- What a run of a region that draws says of each of its places. -/
namespace Go.PM

theorem pastOk_spec {callF : CallF} {lo : Nat} {r : Rd} : ∀ {hist : List St}, pastOk callF lo r hist = true → ∀ k h, hist.reverse[k]? = some h → lo ≤ k → rdOk callF h r = true
  | [], _, k, h, e, _ => by simp at e
  | s :: q, hp, k, h, e, hl => by
    simp only [pastOk, Bool.and_eq_true] at hp
    rw [List.reverse_cons, List.getElem?_append] at e
    split at e
    · exact pastOk_spec hp.2 k h e hl
    · rename_i hk
      simp only [List.length_reverse] at hk e
      have : k - q.length = 0 := by
        cases hh : k - q.length with
        | zero => rfl
        | succ m => rw [hh] at e; simp at e
      rw [this] at e
      simp at e
      subst e
      have h1 := hp.1
      rw [if_pos (by omega)] at h1
      exact h1

theorem futOk_spec {callF : CallF} {k : Nat} {s : St} : ∀ {l : List Rd}, futOk callF k s l = true → ∀ r ∈ l, k ≤ r.hi → rdOk callF s r = true
  | [], _, r, hr, _ => by simp at hr
  | x :: l, h, r, hr, hk => by
    simp only [futOk, Bool.and_eq_true] at h
    rcases List.mem_cons.1 hr with rfl | hr
    · have := h.1
      rw [if_pos hk] at this
      exact this
    · exact futOk_spec h.2 r hr hk

theorem rdOk_eq {callF : CallF} {s : St} {r : Rd} (h : rdOk callF s r = true) : readAt callF s r.q = some r.v := by
  unfold rdOk at h
  split at h
  · rename_i v hv; rw [hv, agree_eq h]
  · cases h

theorem effect_not_alloc {o : SOper} (h : isAllocL o.op = true) : effect o.op = false := by
  obtain ⟨dst, op, gd, lo, hi⟩ := o
  cases op <;> first | rfl | (simp [isAllocL] at h)

def forget (s : St) : St := { s with tmps := s.tmps.map fun _ => .undef, loc := s.loc.map fun _ => none }

section
variable (callF : CallF) (L : List SOper) (s1 : St)

/-- what runs at place i -/
def Ran (i : Nat) : Prop := ∀ o, L[i]? = some o → isAllocL o.op = false → ∃ b, wantedS (stAt callF L s1 i) o.guard = some b ∧
  (b = true → ∃ r, stepOp callF o.dst o.op (stAt callF L s1 i) = some r ∧ ((∃ v s2, r = .val v s2) ∨ (effect o.op = true ∧ ∃ s2, r = .skp s2)))

/-- what is read at place i is read at all places near it -/
def Reads (i N : Nat) : Prop := ∀ o q, L[i]? = some o → isAllocL o.op = false → wantedS (stAt callF L s1 i) o.guard = some true → effect o.op = false → readOf (stAt callF L s1 i) o.op = some q →
  ∃ v, stepOp callF o.dst o.op (stAt callF L s1 i) = some (.val v (stAt callF L s1 i)) ∧ ∀ j, j ≤ N → o.lo ≤ kOf L j → kOf L j ≤ o.hi → readAt callF (stAt callF L s1 j) q = some v

structure Trace (ex : Ex) (s' : St) (N : Nat) : Prop where
  ran : ∀ i, i < N → Ran callF L s1 i
  reads : ∀ i, i < N → Reads callF L s1 i N
  fin : (N = L.length ∧ ex = .norm ∧ s' = stAt callF L s1 N) ∨
    ∃ o v s2, L[N]? = some o ∧ isAllocL o.op = false ∧ wantedS (stAt callF L s1 N) o.guard = some true ∧ stepOp callF o.dst o.op (stAt callF L s1 N) = some (.pan v s2) ∧ o.lo = 1 ∧ ex = .pan v ∧ s' = forget s2

variable {callF L s1}

theorem stAt_succ {i : Nat} {o : SOper} (h : L[i]? = some o) : stAt callF L s1 (i + 1) = nxt callF o (stAt callF L s1 i) := by
  simp only [stAt, h]

theorem runD_trace {ex : Ex} {s' : St} : ∀ (r : List SOper) (i : Nat) (hist : List St) (pend : List Rd), L.drop i = r → i ≤ L.length → runD callF r (stAt callF L s1 i) hist pend = some (ex, s') →
    hist.length = kOf L i + 1 → (∀ j h, j ≤ i → hist.reverse[kOf L j]? = some h → h.core = (stAt callF L s1 j).core) →
    (∀ i', i' < i → Ran callF L s1 i') →
    (∀ i', i' < i → ∀ o q, L[i']? = some o → isAllocL o.op = false → wantedS (stAt callF L s1 i') o.guard = some true → effect o.op = false → readOf (stAt callF L s1 i') o.op = some q →
      ∃ v, stepOp callF o.dst o.op (stAt callF L s1 i') = some (.val v (stAt callF L s1 i')) ∧ (∀ j, j ≤ i → o.lo ≤ kOf L j → kOf L j ≤ o.hi → readAt callF (stAt callF L s1 j) q = some v) ∧
        (kOf L i + 1 ≤ o.hi → ⟨q, v, o.hi⟩ ∈ pend)) →
    ∃ N, N ≤ L.length ∧ Trace callF L s1 ex s' N := by
  intro r
  induction r with
  | nil =>
    intro i hist pend hd hi hr hl hh hran hrd
    simp only [runD, Option.some.injEq, Prod.mk.injEq] at hr
    have hn : i = L.length := by
      have := congrArg List.length hd
      simp at this; omega
    refine ⟨i, hi, hran, fun i' h o q h1 h2 h3 h4 h5 => ?_, .inl ⟨hn, hr.1.symm, hr.2.symm⟩⟩
    obtain ⟨v, e1, e2, _⟩ := hrd i' h o q h1 h2 h3 h4 h5
    exact ⟨v, e1, e2⟩
  | cons o r ih =>
    intro i hist pend hd hi hr hl hh hran hrd
    have ho : L[i]? = some o := by
      have := congrArg (fun l => l[0]?) hd
      simpa using this
    have hd' : L.drop (i + 1) = r := by
      have := congrArg List.tail hd
      simpa using this
    have hi' : i + 1 ≤ L.length := (List.getElem?_eq_some_iff.1 ho).1
    have hks := kOf_succ ho
    have hst := stAt_succ (callF := callF) (s1 := s1) ho
    -- a place that changes nothing but slots
    have still : ∀ pend', effect o.op = false → (stAt callF L s1 (i + 1)).core = (stAt callF L s1 i).core → runD callF r (stAt callF L s1 (i + 1)) hist pend' = some (ex, s') → Ran callF L s1 i → (∀ x ∈ pend, x ∈ pend') →
        (∀ o' q, L[i]? = some o' → isAllocL o'.op = false → wantedS (stAt callF L s1 i) o'.guard = some true → effect o'.op = false → readOf (stAt callF L s1 i) o'.op = some q →
          ∃ v, stepOp callF o'.dst o'.op (stAt callF L s1 i) = some (.val v (stAt callF L s1 i)) ∧ (∀ j, j ≤ i → o'.lo ≤ kOf L j → kOf L j ≤ o'.hi → readAt callF (stAt callF L s1 j) q = some v) ∧
            (kOf L i + 1 ≤ o'.hi → ⟨q, v, o'.hi⟩ ∈ pend')) → ∃ N, N ≤ L.length ∧ Trace callF L s1 ex s' N := by
      intro pend' he hc hr' hran' hsub hnew
      have hk : kOf L (i + 1) = kOf L i := by rw [hks, he]; simp
      have hcj : ∀ j, j ≤ i + 1 → ∃ j', j' ≤ i ∧ kOf L j' = kOf L j ∧ (stAt callF L s1 j').core = (stAt callF L s1 j).core := by
        intro j hj
        by_cases e : j = i + 1
        · subst e; exact ⟨i, Nat.le_refl _, hk.symm, hc.symm⟩
        · exact ⟨j, by omega, rfl, rfl⟩
      refine ih (i + 1) hist pend' hd' hi' hr' (by rw [hk]; exact hl) (fun j h hj e => ?_) (fun i' h => ?_) (fun i' h o' q h1 h2 h3 h4 h5 => ?_)
      · obtain ⟨j', b1, b2, b3⟩ := hcj j hj
        rw [← b3]
        exact hh j' h b1 (by rw [b2]; exact e)
      · by_cases e : i' = i
        · subst e; exact hran'
        · exact hran i' (by omega)
      · have : ∃ v, stepOp callF o'.dst o'.op (stAt callF L s1 i') = some (.val v (stAt callF L s1 i')) ∧ (∀ j, j ≤ i → o'.lo ≤ kOf L j → kOf L j ≤ o'.hi → readAt callF (stAt callF L s1 j) q = some v) ∧ (kOf L i + 1 ≤ o'.hi → ⟨q, v, o'.hi⟩ ∈ pend') := by
          by_cases e : i' = i
          · subst e; exact hnew o' q h1 h2 h3 h4 h5
          · obtain ⟨v, c1, c2, c3⟩ := hrd i' (by omega) o' q h1 h2 h3 h4 h5
            exact ⟨v, c1, c2, fun h => hsub _ (c3 h)⟩
        obtain ⟨v, c1, c2, c3⟩ := this
        refine ⟨v, c1, fun j hj l1 l2 => ?_, by rw [hk]; exact c3⟩
        obtain ⟨j', b1, b2, b3⟩ := hcj j hj
        rw [← readAt_core b3]
        exact c2 j' b1 (by rw [b2]; exact l1) (by rw [b2]; exact l2)
    -- an effect
    have eff : ∀ s2 : St, effect o.op = true → (stAt callF L s1 (i + 1)).core = s2.core → futOk callF hist.length s2 pend = true → runD callF r (stAt callF L s1 (i + 1)) (s2 :: hist) pend = some (ex, s') → Ran callF L s1 i → ∃ N, N ≤ L.length ∧ Trace callF L s1 ex s' N := by
      intro s2 he hc hf hr' hran'
      have hk : kOf L (i + 1) = kOf L i + 1 := by rw [hks, he]; simp
      refine ih (i + 1) (s2 :: hist) pend hd' hi' hr' (by rw [hk]; simp [hl]) (fun j h hj e => ?_) (fun i' h => ?_) (fun i' h o' q h1 h2 h3 h4 h5 => ?_)
      · rw [List.reverse_cons, List.getElem?_append] at e
        by_cases ej : j = i + 1
        · subst ej
          rw [if_neg (by simp [hl, hk]), hk] at e
          simp [hl] at e
          subst e; exact hc.symm
        · have hjm := kOf_mono (L := L) (show j ≤ i by omega)
          rw [if_pos (by simp [hl]; omega)] at e
          exact hh j h (by omega) e
      · by_cases e : i' = i
        · subst e; exact hran'
        · exact hran i' (by omega)
      · by_cases e : i' = i
        · subst e
          rw [ho] at h1; cases h1
          rw [he] at h4; cases h4
        · obtain ⟨v, c1, c2, c3⟩ := hrd i' (by omega) o' q h1 h2 h3 h4 h5
          refine ⟨v, c1, fun j hj l1 l2 => ?_, fun hle => c3 (by omega)⟩
          by_cases ej : j = i + 1
          · subst ej
            have hm := c3 (by omega)
            have := futOk_spec hf _ hm (by simp only []; omega)
            rw [readAt_core hc]
            exact rdOk_eq this
          · exact c2 j (by omega) l1 l2
    simp only [runD] at hr
    by_cases ha : isAllocL o.op = true
    · rw [if_pos ha] at hr
      have hn : stAt callF L s1 (i + 1) = stAt callF L s1 i := by rw [hst, nxt, if_pos ha]
      refine still pend (effect_not_alloc ha) (by rw [hn]) (by rw [hn]; exact hr) ?_ (fun _ h => h) ?_
      · intro o' h1 h2; rw [ho] at h1; cases h1; rw [ha] at h2; cases h2
      · intro o' q h1 h2; rw [ho] at h1; cases h1; rw [ha] at h2; cases h2
    · have ha' : isAllocL o.op = false := by simpa using ha
      rw [if_neg ha] at hr
      split at hr
      · rename_i hw
        split at hr
        · rename_i v s2 hsp
          have hn : stAt callF L s1 (i + 1) = s2.put o.dst v := by rw [hst, nxt, if_neg ha, hw]; simp only [hsp]
          have hran' : Ran callF L s1 i := by
            intro o' h1 h2
            rw [ho] at h1; cases h1
            exact ⟨true, hw, fun _ => ⟨_, hsp, .inl ⟨_, _, rfl⟩⟩⟩
          split at hr
          · rename_i he
            split at hr
            · rename_i hf
              exact eff s2 he (by rw [hn, core_put]) hf (by rw [hn]; exact hr) hran'
            · cases hr
          · rename_i he
            have he' : effect o.op = false := by simpa using he
            obtain ⟨v', hv⟩ := stepOp_quiet he' ha' hsp
            cases hv
            split at hr
            · rename_i q hq
              split at hr
              · rename_i hp
                refine still _ he' (by rw [hn, core_put]) (by rw [hn]; exact hr) hran' (fun x hx => by split <;> simp [hx]) ?_
                intro o' q' h1 h2 h3 h4 h5
                rw [ho] at h1; cases h1
                rw [hq] at h5; cases h5
                refine ⟨v, hsp, fun j hj l1 l2 => ?_, fun hle => by rw [if_pos (by omega)]; exact List.mem_cons_self ..⟩
                have hkm := kOf_mono (L := L) hj
                have hsome : ∃ h, hist.reverse[kOf L j]? = some h := by
                  rw [← Option.isSome_iff_exists]; simp; omega
                obtain ⟨h, hh1⟩ := hsome
                have hcore := hh j h hj hh1
                by_cases hkk : kOf L j = kOf L i
                · have hcore2 := hh i h (Nat.le_refl _) (by rw [← hkk]; exact hh1)
                  rw [← readAt_core hcore, readAt_core hcore2]
                  have := stepOp_read (callF := callF) (dst := o.dst) hq
                  rw [hsp] at this
                  cases hra : readAt callF (stAt callF L s1 i) q with
                  | none => rw [hra] at this; simp at this
                  | some y => rw [hra] at this; simp at this; rw [this]
                · rw [← readAt_core hcore]
                  refine rdOk_eq (r := ⟨q, v, o.hi⟩) (pastOk_spec hp (kOf L j) h ?_ l1)
                  cases hist with
                  | nil => simp at hl
                  | cons h0 ht =>
                    simp only [List.tail_cons]
                    rw [List.reverse_cons, List.getElem?_append] at hh1
                    simp only [List.length_cons] at hl
                    rw [if_pos (by simp; omega)] at hh1
                    exact hh1
              · cases hr
            · rename_i hq
              refine still pend he' (by rw [hn, core_put]) (by rw [hn]; exact hr) hran' (fun _ h => h) ?_
              intro o' q' h1 h2 h3 h4 h5
              rw [ho] at h1; cases h1
              rw [hq] at h5; cases h5
        · rename_i s2 hsp
          have hn : stAt callF L s1 (i + 1) = s2.put o.dst (.tup []) := by rw [hst, nxt, if_neg ha, hw]; simp only [hsp]
          split at hr
          · rename_i he
            split at hr
            · rename_i hf
              refine eff s2 he (by rw [hn, core_put]) hf (by rw [hn]; exact hr) ?_
              intro o' h1 h2
              rw [ho] at h1; cases h1
              exact ⟨true, hw, fun _ => ⟨_, hsp, .inr ⟨he, _, rfl⟩⟩⟩
            · cases hr
          · cases hr
        · rename_i v s2 hsp
          split at hr
          · rename_i hlo
            simp only [Option.some.injEq, Prod.mk.injEq] at hr
            refine ⟨i, hi, hran, fun i' h o q h1 h2 h3 h4 h5 => ?_, .inr ⟨o, v, s2, ho, ha', hw, hsp, hlo, hr.1.symm, hr.2.symm⟩⟩
            obtain ⟨v, e1, e2, _⟩ := hrd i' h o q h1 h2 h3 h4 h5
            exact ⟨v, e1, e2⟩
          · cases hr
        · cases hr
      · rename_i hw
        have hn : stAt callF L s1 (i + 1) = (stAt callF L s1 i).put o.dst (.tup []) := by rw [hst, nxt, if_neg ha, hw]
        have hran' : Ran callF L s1 i := by
          intro o' h1 h2
          rw [ho] at h1; cases h1
          exact ⟨false, hw, fun h => by cases h⟩
        split at hr
        · rename_i he
          split at hr
          · rename_i hf
            exact eff _ he (by rw [hn, core_put]) hf (by rw [hn]; exact hr) hran'
          · cases hr
        · rename_i he
          refine still pend (by simpa using he) (by rw [hn, core_put]) (by rw [hn]; exact hr) hran' (fun _ h => h) ?_
          intro o' q' h1 h2 h3 h4 h5
          rw [ho] at h1; cases h1
          rw [hw] at h3; cases h3
      · cases hr

end
end Go.PM

/- Orders of a region, and what its checks say. -/
namespace Go.PM

/-- an order of what is left, `X` being done -/
def Lin (b : Array Nat) (n : Nat) : List Nat → List Nat → Prop
  | X, [] => ∀ i, i < n → i ∈ X
  | X, i :: r => i < n ∧ i ∉ X ∧ (∀ j, bef b j i = true → j ∈ X) ∧ Lin b n (i :: X) r

theorem countP_lt {p q : Nat → Bool} : ∀ {l : List Nat} {i : Nat}, (∀ j, p j = true → q j = true) → i ∈ l → p i = false → q i = true → l.countP p < l.countP q
  | [], i, _, h, _, _ => by simp at h
  | x :: l, i, hs, h, h1, h2 => by
    have hle : ∀ l : List Nat, l.countP p ≤ l.countP q := fun l => List.countP_mono_left fun j _ => hs j
    rw [List.countP_cons, List.countP_cons]
    rcases List.mem_cons.1 h with rfl | h
    · have := hle l
      rw [h1, h2]; simp; omega
    · have := countP_lt hs h h1 h2
      cases hp : p x
      · simp; omega
      · rw [hs x hp]; simp; omega

theorem linearise_lin {ops : Array Oper} (hE : edgesOk ops = true) : ∀ (fuel t : Nat) (listed : Array Bool) (X : List Nat), listed.size = ops.size → (∀ i, i < ops.size → (listed.getD i true = true ↔ i ∈ X)) → (∀ i ∈ X, i < ops.size) →
    (∀ i ∈ X, ∀ j, bef (Region.before ops) j i = true → j ∈ X) → (List.range ops.size).countP (fun i => !X.contains i) ≤ fuel →
    Lin (Region.before ops) ops.size X (Region.linearise.go .any ops fuel t listed []) := by
  intro fuel
  induction fuel with
  | zero =>
    intro t listed X hs hl hX hc hf
    simp only [Region.linearise.go, List.reverse_nil, Lin]
    intro i hi
    have : (List.range ops.size).countP (fun i => !X.contains i) = 0 := by omega
    rw [List.countP_eq_zero] at this
    have := this i (by simpa using hi)
    simpa using this
  | succ fuel ih =>
    intro t listed X hs hl hX hc hf
    simp only [Region.linearise.go]
    change Lin _ _ X (match (Region.ready .any ops listed)[t % (Region.ready .any ops listed).length]? with
      | some i => Region.linearise.go .any ops fuel (t / (Region.ready .any ops listed).length) (listed.setIfInBounds i true) [i]
      | none => [].reverse)
    have hgetD : ∀ k, k < ops.size → listed.getD k false = true → k ∈ X := by
      intro k hk h
      refine (hl k hk).1 ?_
      have hk' : k < listed.size := by omega
      simp only [Array.getD_eq_getD_getElem?, Array.getElem?_eq_getElem hk', Option.getD_some] at h ⊢
      exact h
    cases hi : (Region.ready .any ops listed)[t % (Region.ready .any ops listed).length]? with
    | none =>
      have hnil : Region.ready .any ops listed = [] := by
        cases hr : Region.ready .any ops listed with
        | nil => rfl
        | cons x xs =>
          rw [hr] at hi
          have hlt : t % (x :: xs).length < (x :: xs).length := Nat.mod_lt _ (by simp)
          simp at hi
          simp at hlt
          omega
      simp only [List.reverse_nil, Lin]
      intro i
      refine Nat.strongRecOn i ?_
      intro i hrec hlt
      refine Classical.byContradiction fun hno => ?_
      have hnl : listed.getD i true = false := by
        cases h : listed.getD i true with
        | false => rfl
        | true => exact absurd ((hl i hlt).1 h) hno
      have hmem : i ∈ Region.ready .any ops listed := by
        unfold Region.ready
        rw [List.mem_filter]
        refine ⟨by simpa using hlt, ?_⟩
        rw [Array.getElem?_eq_getElem hlt]
        simp only [hnl, Bool.not_false, Option.map_some, Option.getD_some, Bool.true_and]
        rw [Array.all_eq_true_iff_forall_mem]
        intro e he
        simp only [Bool.or_eq_true, Bool.not_eq_true']
        by_cases hb : Region.binds .any e = true
        · right
          have h1 : e.on < i := by
            unfold edgesOk at hE
            rw [List.all_eq_true] at hE
            have := hE (ops[i], i) (by rw [List.mem_zipIdx_iff_getElem?]; simp [hlt])
            rw [List.all_eq_true] at this
            have := this e (by simpa using he)
            simpa [hb] using this
          have h2 := hrec e.on h1 (by omega)
          have h3 := (hl e.on (by omega)).2 h2
          have hk' : e.on < listed.size := by omega
          simp only [Array.getD_eq_getD_getElem?, Array.getElem?_eq_getElem hk', Option.getD_some] at h3 ⊢
          exact h3
        · left; simpa using hb
      rw [hnil] at hmem
      simp at hmem
    | some i =>
      simp only []
      rw [linearise_go_acc, List.reverse_singleton, List.singleton_append]
      have hm := List.mem_of_getElem? hi
      unfold Region.ready at hm
      rw [List.mem_filter] at hm
      obtain ⟨h1, h2⟩ := hm
      have hlt : i < ops.size := by simpa using h1
      rw [Array.getElem?_eq_getElem hlt] at h2
      simp only [Option.map_some, Option.getD_some, Bool.and_eq_true, Bool.not_eq_true'] at h2
      obtain ⟨h2, h3⟩ := h2
      have hno : i ∉ X := fun h => by rw [(hl i hlt).2 h] at h2; cases h2
      have hpre : ∀ j, bef (Region.before ops) j i = true → j ∈ X := by
        intro j hj
        obtain ⟨o, ho, e, he, hb, hc'⟩ := bef_cases hj
        rw [Array.getElem?_eq_getElem hlt] at ho
        cases ho
        rw [Array.all_eq_true_iff_forall_mem] at h3
        have h4 := h3 e (by simpa using he)
        simp only [hb, Bool.not_true, Bool.false_or] at h4
        have hon : e.on < ops.size := by
          refine Classical.byContradiction fun h => ?_
          rw [Array.getD_eq_getD_getElem?, Array.getElem?_eq_none (by omega)] at h4
          simp at h4
        have hin := hgetD e.on hon h4
        rcases hc' with rfl | ⟨_, h5⟩
        · exact hin
        · exact hc _ hin _ h5
      refine ⟨hlt, hno, hpre, ih _ _ (i :: X) (by simpa using hs) (fun k hk => ?_) (fun k hk => ?_) (fun k hk j hj => ?_) ?_⟩
      · rw [Array.getD_eq_getD_getElem?, Array.getElem?_setIfInBounds]
        by_cases e : i = k
        · subst e; simp [hs, hlt]
        · rw [if_neg e, ← Array.getD_eq_getD_getElem?, hl k hk]
          simp [Ne.symm e]
      · rcases List.mem_cons.1 hk with rfl | hk
        · exact hlt
        · exact hX k hk
      · rcases List.mem_cons.1 hk with rfl | hk
        · exact List.mem_cons_of_mem _ (hpre j hj)
        · exact List.mem_cons_of_mem _ (hc k hk j hj)
      · have := countP_lt (p := fun k => !(i :: X).contains k) (q := fun k => !X.contains k) (l := List.range ops.size) (i := i) (fun j hj => by simp at hj ⊢; exact hj.2) (by simpa using hlt) (by simp) (by simpa using hno)
        omega

theorem schedule_lin {P : Program} {ops : Array Oper} (hm : P.follows .mixedOrders = true) (hE : edgesOk ops = true) (t : Nat) : Lin (Region.before ops) ops.size [] (Region.schedule (P.follows .mixedOrders) ops t) := by
  simp only [Region.schedule, hm, Bool.true_or, if_true]
  unfold Region.linearise
  refine linearise_lin hE ops.size t _ [] (by simp) (fun i hi => ?_) (by simp) (by simp) ?_
  · rw [Array.getD_eq_getD_getElem?, Array.getElem?_replicate]
    simp [hi]
  · simp

/-! ### the checks -/

theorem annot_get (b : Array Nat) (es : List Nat) (l : List SOper) (i : Nat) : ∀ o, (annot b es l)[i]? = some o → ∃ o0, l[i]? = some o0 ∧ o.op = o0.op ∧ o.dst = o0.dst ∧ o.guard = o0.guard ∧
    (effect o0.op = true → o.lo = 1 → ∀ q oq, l[q]? = some oq → q ≤ i ∨ bef b i q = true ∨ calm oq.op = true) ∧
    (effect o0.op = false → o.lo = (es.filter fun j => bef b j i).length ∧ o.hi = (es.filter fun j => !bef b i j).length) := by
  intro o h
  simp only [annot, List.getElem?_map, List.getElem?_zipIdx, Nat.zero_add, Option.map_map, Option.map_eq_some_iff, Function.comp_apply] at h
  obtain ⟨o0, h0, h⟩ := h
  refine ⟨o0, h0, ?_⟩
  by_cases he : effect o0.op = true
  · rw [if_pos he] at h
    subst h
    refine ⟨rfl, rfl, rfl, fun _ hl q oq hq => ?_, fun h => by rw [he] at h; cases h⟩
    simp only [] at hl
    split at hl
    · rename_i hall
      rw [List.all_eq_true] at hall
      have := hall (oq, q) (by rw [List.mem_zipIdx_iff_getElem?]; simpa using hq)
      simp only [Bool.or_eq_true, decide_eq_true_eq] at this
      rcases this with (h | h) | h
      · exact .inl h
      · exact .inr (.inl h)
      · exact .inr (.inr h)
    · cases hl
  · rw [if_neg he] at h
    subst h
    exact ⟨rfl, rfl, rfl, fun h => absurd h he, fun _ => ⟨rfl, rfl⟩⟩

theorem annot_some (b : Array Nat) (es : List Nat) (l : List SOper) (i : Nat) {o0 : SOper} (h : l[i]? = some o0) : ∃ o, (annot b es l)[i]? = some o := by
  have hl : (annot b es l).length = l.length := by simp [annot]
  have := (List.getElem?_eq_some_iff.1 h).1
  exact ⟨_, List.getElem?_eq_getElem (by omega)⟩

theorem chain_pair {b : Array Nat} : ∀ {l : List Nat}, chain b l = true → l.Pairwise (fun i j => bef b i j = true)
  | [], _ => .nil
  | i :: r, h => by
    simp only [chain, Bool.and_eq_true, List.all_eq_true] at h
    exact .cons h.1 (chain_pair h.2)

theorem effs_sorted (l : List SOper) : (effs l).Pairwise (· < ·) := by
  unfold effs
  rw [List.pairwise_map]
  refine List.Pairwise.filter _ ?_
  have h : (l.zipIdx.map (·.2)).Pairwise (· < ·) := by
    rw [List.zipIdx_map_snd]
    exact List.pairwise_lt_range'
  rwa [List.pairwise_map] at h

theorem pairwise_get {R : Nat → Nat → Prop} {l : List Nat} (h : l.Pairwise R) (hs : l.Pairwise (· < ·)) {i j : Nat} (hi : i ∈ l) (hj : j ∈ l) (hij : i < j) : R i j := by
  rw [List.pairwise_iff_getElem] at h hs
  obtain ⟨a, ha, rfl⟩ := List.mem_iff_getElem.1 hi
  obtain ⟨c, hc, rfl⟩ := List.mem_iff_getElem.1 hj
  by_cases hac : a < c
  · exact h a c ha hc hac
  · exfalso
    by_cases e : a = c
    · subst e; omega
    · have := hs c a hc ha (by omega); omega

theorem nodup_nodup : ∀ {l : List Nat}, nodup l = true → l.Nodup
  | [], _ => .nil
  | a :: r, h => by
    simp only [nodup, Bool.and_eq_true, Bool.not_eq_true'] at h
    exact List.nodup_cons.2 ⟨by simpa using h.1, nodup_nodup h.2⟩

theorem dst_unique : ∀ {l : List SOper}, (l.filterMap (·.dst)).Nodup → ∀ (i j : Nat) (a c : SOper) (t : Nat), l[i]? = some a → l[j]? = some c → a.dst = some t → c.dst = some t → i = j
  | [], _, i, j, a, c, t, h, _, _, _ => by simp at h
  | x :: l, hn, i, j, a, c, t, h1, h2, h3, h4 => by
    have hmem : ∀ (k : Nat) (y : SOper), l[k]? = some y → y.dst = some t → t ∈ l.filterMap (·.dst) := fun k y hk hy => List.mem_filterMap.2 ⟨y, List.mem_of_getElem? hk, hy⟩
    have hn' : (l.filterMap (·.dst)).Nodup := by
      rw [List.filterMap_cons] at hn
      split at hn
      · exact hn
      · exact (List.nodup_cons.1 hn).2
    have hx : x.dst = some t → t ∉ l.filterMap (·.dst) := by
      intro hx
      rw [List.filterMap_cons] at hn
      simp only [hx] at hn
      exact (List.nodup_cons.1 hn).1
    cases i with
    | zero =>
      simp at h1; subst h1
      cases j with
      | zero => rfl
      | succ j => simp at h2; exact absurd (hmem j c h2 h4) (hx h3)
    | succ i =>
      simp at h1
      cases j with
      | zero => simp at h2; subst h2; exact absurd (hmem i a h1 h3) (hx h4)
      | succ j => simp at h2; rw [dst_unique hn' i j a c t h1 h2 h3 h4]

/-- what the checks of a region say, place by place -/
structure DGood (b : Array Nat) (L : List SOper) : Prop where
  chain : ∀ i j a c, L[i]? = some a → L[j]? = some c → effect a.op = true → effect c.op = true → i < j → bef b i j = true
  uniq : ∀ (i j : Nat) (a c : SOper) (t : Nat), L[i]? = some a → L[j]? = some c → a.dst = some t → c.dst = some t → i = j
  tmps : ∀ (p q : Nat) (a c : SOper) (t : Nat), L[p]? = some a → L[q]? = some c → t ∈ soperT a → c.dst = some t → if q < p then bef b q p = true else p = q ∨ bef b p q = true
  allocG : ∀ (q : Nat) (c : SOper), L[q]? = some c → isAllocL c.op = true → c.guard = none ∧ ∃ t, c.dst = some t
  allocT : ∀ (p q : Nat) (a c : SOper) (t : Nat), L[p]? = some a → L[q]? = some c → isAllocL c.op = true → c.dst = some t → p ≤ q → t ∉ soperT a
  plain : ∀ (p : Nat) (a : SOper), L[p]? = some a → ∀ x ∈ opds a.op, plainK x = true
  loE : ∀ (p q : Nat) (a c : SOper), L[p]? = some a → L[q]? = some c → effect a.op = true → a.lo = 1 → q ≤ p ∨ bef b p q = true ∨ calm c.op = true
  loR : ∀ (p : Nat) (a : SOper), L[p]? = some a → effect a.op = false → a.lo = ((effs L).filter fun j => bef b j p).length ∧ a.hi = ((effs L).filter fun j => !bef b p j).length

theorem effs_annot (b : Array Nat) (es : List Nat) (l : List SOper) : effs (annot b es l) = effs l := by
  unfold effs annot
  rw [List.zipIdx_map]
  have : l.zipIdx.zipIdx = l.zipIdx.zipIdx := rfl
  have h : (l.zipIdx.zipIdx.map fun (p : (SOper × Nat) × Nat) => (p.1.1, p.2)) = l.zipIdx := by
    apply List.ext_getElem?
    intro i
    simp only [List.getElem?_map, List.getElem?_zipIdx]
    cases l[i]? <;> simp
  conv => rhs; rw [← h]
  rw [List.filter_map, List.filter_map, List.map_map, List.map_map]
  congr 1
  apply List.filter_congr
  rintro ⟨⟨o, k⟩, m⟩ _
  simp only [Function.comp_apply, Prod.map]
  split <;> rfl

theorem drawOk_good {b : Array Nat} {l : List SOper} (h : drawOk b l = true) : DGood b (annot b (effs l) l) := by
  unfold drawOk at h
  simp only [Bool.and_eq_true] at h
  obtain ⟨⟨⟨⟨h1, h2⟩, h3⟩, h4⟩, h5⟩ := h
  have hz : ∀ (i : Nat) (o : SOper), l[i]? = some o → (o, i) ∈ l.zipIdx := fun i o h => by rw [List.mem_zipIdx_iff_getElem?]; simpa using h
  unfold tmpsOk at h3
  unfold allocsOk at h4
  rw [List.all_eq_true] at h3 h4 h5
  have hsT : ∀ (o o0 : SOper), o.op = o0.op → o.guard = o0.guard → soperT o = soperT o0 := fun o o0 e1 e2 => by unfold soperT; rw [e1, e2]
  refine ⟨fun i j a c ha hc ea ec hij => ?_, fun i j a c t ha hc ea ec => ?_, fun p q a c t ha hc ht hd => ?_, fun q c hc hal => ?_, fun p q a c t ha hc hal hd hpq => ?_, fun p a ha x hx => ?_, fun p q a c ha hc he hl => ?_, fun p a ha he => ?_⟩
  · obtain ⟨a0, ha0, b1, _⟩ := annot_get _ _ _ _ _ ha
    obtain ⟨c0, hc0, b2, _⟩ := annot_get _ _ _ _ _ hc
    exact pairwise_get (chain_pair h1) (effs_sorted l) (mem_effs.2 ⟨a0, ha0, b1 ▸ ea⟩) (mem_effs.2 ⟨c0, hc0, b2 ▸ ec⟩) hij
  · obtain ⟨a0, ha0, _, b1, _⟩ := annot_get _ _ _ _ _ ha
    obtain ⟨c0, hc0, _, b2, _⟩ := annot_get _ _ _ _ _ hc
    exact dst_unique (nodup_nodup h2) i j a0 c0 t ha0 hc0 (b1 ▸ ea) (b2 ▸ ec)
  · obtain ⟨a0, ha0, b1, _, b1', _⟩ := annot_get _ _ _ _ _ ha
    obtain ⟨c0, hc0, _, b2, _⟩ := annot_get _ _ _ _ _ hc
    have := h3 _ (hz p a0 ha0)
    rw [List.all_eq_true] at this
    have := this t (by rw [← hsT a a0 b1 b1']; exact ht)
    rw [List.all_eq_true] at this
    have := this _ (hz q c0 hc0)
    simp only [] at this
    rw [if_pos (by rw [← b2]; exact hd)] at this
    by_cases hlt : q < p
    · rw [if_pos hlt] at this ⊢; exact this
    · rw [if_neg hlt] at this ⊢; simpa using this
  · obtain ⟨c0, hc0, b1, b2, b3, _⟩ := annot_get _ _ _ _ _ hc
    have := h4 _ (hz q c0 hc0)
    rw [b1] at hal
    simp only [hal, Bool.not_true, Bool.false_or, Bool.and_eq_true] at this
    refine ⟨by rw [b3]; simpa using this.1, ?_⟩
    have h6 := this.2
    rw [List.all_eq_true] at h6
    have := h6 _ (hz q c0 hc0)
    cases hd : c0.dst with
    | none => rw [hd] at this; simp at this
    | some t => exact ⟨t, by rw [b2, hd]⟩
  · obtain ⟨a0, ha0, b1, _, b1', _⟩ := annot_get _ _ _ _ _ ha
    obtain ⟨c0, hc0, b2, b3, _⟩ := annot_get _ _ _ _ _ hc
    have := h4 _ (hz q c0 hc0)
    rw [b2] at hal
    simp only [hal, Bool.not_true, Bool.false_or, Bool.and_eq_true] at this
    have h6 := this.2
    rw [List.all_eq_true] at h6
    have := h6 _ (hz p a0 ha0)
    rw [b3] at hd
    simp only [hd] at this
    rw [hsT a a0 b1 b1']
    simpa [hpq] using this
  · obtain ⟨a0, ha0, b1, _⟩ := annot_get _ _ _ _ _ ha
    have := h5 a0 (List.mem_of_getElem? ha0)
    rw [List.all_eq_true] at this
    exact this x (by rw [← b1]; exact hx)
  · obtain ⟨a0, ha0, b1, _, _, b4, _⟩ := annot_get _ _ _ _ _ ha
    obtain ⟨c0, hc0, b2, _⟩ := annot_get _ _ _ _ _ hc
    rw [b2]
    exact b4 (b1 ▸ he) hl q c0 hc0
  · obtain ⟨a0, ha0, b1, _, _, _, b5⟩ := annot_get _ _ _ _ _ ha
    rw [effs_annot]
    exact b5 (b1 ▸ he)

end Go.PM

/- A region that draws its order: every order does what the run in the text's order says. -/
namespace Go.PM

theorem stepOp_tmps {callF : CallF} {dst : Option Nat} {op : SOp} {s s' : St} {r : ORes} (h : stepOp callF dst op s = some r) (hr : (∃ v, r = .val v s') ∨ r = .skp s' ∨ ∃ v, r = .pan v s') : s'.tmps = s.tmps := by
  have := stepOp_sub (callF := callF) (dst := none) (op := op) (s := s) (T := s.tmps) (U := []) (fun x _ => by cases x <;> rfl) (fun _ _ _ _ _ => by simp) (by simp)
  have hs : s.sub s.tmps [] = s := by
    have : hide [] s.loc = s.loc := by
      apply List.ext_getElem?
      intro i
      rw [hide_out (by simp)]
    simp only [St.sub, this]
  have h2 := stepOp_sub (callF := callF) (dst := dst) (op := op) (s := s) (T := s.tmps) (U := []) (fun x _ => by cases x <;> rfl) (fun _ _ _ _ _ => by simp) (by simp)
  rw [hs, h] at h2
  simp only [Option.map_some, Option.some.injEq] at h2
  rcases hr with ⟨v, rfl⟩ | rfl | ⟨v, rfl⟩
  · simp only [ORes.sub, ORes.val.injEq, true_and] at h2
    rw [h2]; rfl
  · simp only [ORes.sub, ORes.skp.injEq] at h2
    rw [h2]; rfl
  · simp only [ORes.sub, ORes.pan.injEq, true_and] at h2
    rw [h2]; rfl

def putL (T : List AV) (dst : Option Nat) (v : AV) : List AV :=
  match dst with
  | some t => T.set t v
  | none => T

theorem sub_put (s : St) (T : List AV) (U : List Nat) (dst : Option Nat) (v : AV) : (s.sub T U).put dst v = s.sub (putL T dst v) U := by
  cases dst <;> rfl

theorem sub_core {s s2 : St} (h : s.core = s2.core) (T : List AV) (U : List Nat) : s.sub T U = s2.sub T U := by
  cases s; cases s2
  simp only [St.core, St.mk.injEq, true_and] at h
  simp only [St.sub, h]

theorem put_tmps_get (s : St) (dst : Option Nat) (v : AV) (t : Nat) : (s.put dst v).tmps = putL s.tmps dst v := by cases dst <;> rfl
theorem put_core_tmps (s : St) (dst : Option Nat) (v : AV) : (s.put dst v).tmps.length = s.tmps.length := by cases dst <;> simp [St.put]

section
variable {callF : CallF} {L : List SOper} {s1 : St}

theorem nxt_tmps (o : SOper) (s : St) : ∃ v, (nxt callF o s).tmps = putL s.tmps o.dst v ∨ (nxt callF o s).tmps = s.tmps := by
  unfold nxt
  split
  · exact ⟨.undef, .inr rfl⟩
  · split
    · split
      · rename_i v s' h
        refine ⟨v, .inl ?_⟩
        rw [put_tmps_get _ _ _ 0, stepOp_tmps h (.inl ⟨_, rfl⟩)]
      · rename_i s' h
        refine ⟨.tup [], .inl ?_⟩
        rw [put_tmps_get _ _ _ 0, stepOp_tmps h (.inr (.inl rfl))]
      · exact ⟨.undef, .inr rfl⟩
    · exact ⟨.tup [], .inl (put_tmps_get _ _ _ 0)⟩

theorem putL_other {T : List AV} {dst : Option Nat} {v : AV} {t : Nat} (h : dst ≠ some t) : (putL T dst v)[t]? = T[t]? := by
  cases dst with
  | none => rfl
  | some d => simp only [putL]; rw [List.getElem?_set]; rw [if_neg (fun e => h (by rw [e]))]

theorem putL_len {T : List AV} {dst : Option Nat} {v : AV} : (putL T dst v).length = T.length := by cases dst <;> simp [putL]

theorem putL_same {T T' : List AV} {t : Nat} {v : AV} (h : T.length = T'.length) : (putL T (some t) v)[t]? = (putL T' (some t) v)[t]? := by
  simp only [putL, List.getElem?_set]; simp [h]

theorem stAt_len : ∀ i, (stAt callF L s1 i).tmps.length = s1.tmps.length
  | 0 => rfl
  | i + 1 => by
    simp only [stAt]
    split
    · rename_i o _
      obtain ⟨v, h | h⟩ := nxt_tmps (callF := callF) o (stAt callF L s1 i)
      · rw [h, putL_len, stAt_len i]
      · rw [h, stAt_len i]
    · exact stAt_len i

/-- a slot that nobody writes between two places -/
theorem stAt_slot {t : Nat} : ∀ (k i : Nat), (∀ j o, i ≤ j → j < i + k → L[j]? = some o → o.dst ≠ some t) → (stAt callF L s1 (i + k)).tmps[t]? = (stAt callF L s1 i).tmps[t]?
  | 0, i, _ => rfl
  | k + 1, i, h => by
    rw [← stAt_slot k i (fun j o h1 h2 => h j o h1 (by omega)), ← Nat.add_assoc]
    simp only [stAt]
    split
    · rename_i o ho
      obtain ⟨v, h' | h'⟩ := nxt_tmps (callF := callF) o (stAt callF L s1 (i + k))
      · rw [h', putL_other (h (i + k) o (by omega) (by omega) ho)]
      · rw [h']
    · rfl

theorem stAt_slot' {t i j : Nat} (hij : i ≤ j) (h : ∀ m o, i ≤ m → m < j → L[m]? = some o → o.dst ≠ some t) : (stAt callF L s1 j).tmps[t]? = (stAt callF L s1 i).tmps[t]? := by
  obtain ⟨k, rfl⟩ := Nat.le.dest hij
  exact stAt_slot k i h

/-- places between which no effect stands -/
theorem stAt_core {N : Nat} (hR : ∀ i, i < N → Ran callF L s1 i) : ∀ (k i : Nat), i + k ≤ N → (∀ j o, i ≤ j → j < i + k → L[j]? = some o → effect o.op = false) → (stAt callF L s1 (i + k)).core = (stAt callF L s1 i).core
  | 0, i, _, _ => rfl
  | k + 1, i, hN, h => by
    rw [← stAt_core hR k i (by omega) (fun j o h1 h2 => h j o h1 (by omega)), ← Nat.add_assoc]
    cases ho : L[i + k]? with
    | none => simp only [stAt, ho]
    | some o =>
      rw [stAt_succ ho]
      have he := h (i + k) o (by omega) (by omega) ho
      unfold nxt
      split
      · rfl
      · rename_i ha
        obtain ⟨b, hb, hr⟩ := hR (i + k) (by omega) o ho (by simpa using ha)
        rw [hb]
        cases b with
        | false => exact core_put _ _ _
        | true =>
          obtain ⟨r, hr, _⟩ := hr rfl
          obtain ⟨v, rfl⟩ := stepOp_quiet he (by simpa using ha) hr
          simp only [hr]
          exact core_put _ _ _

theorem stAt_core' {N : Nat} (hR : ∀ i, i < N → Ran callF L s1 i) {i j : Nat} (hi : i ≤ N) (hj : j ≤ N) (h : ∀ e o, L[e]? = some o → effect o.op = true → (e < i ↔ e < j)) : (stAt callF L s1 i).core = (stAt callF L s1 j).core := by
  have key : ∀ {i j : Nat}, i ≤ N → j ≤ N → i ≤ j → (∀ e o, L[e]? = some o → effect o.op = true → (e < i ↔ e < j)) → (stAt callF L s1 j).core = (stAt callF L s1 i).core := by
    intro i j hi hj hij h
    obtain ⟨k, rfl⟩ := Nat.le.dest hij
    refine stAt_core hR k i hj (fun m o h1 h2 h3 => ?_)
    cases he : effect o.op with
    | false => rfl
    | true => have := (h m o h3 he).2 h2; omega
  rcases Nat.le_total i j with hij | hij
  · exact (key hi hj hij h).symm
  · exact key hj hi hij (fun e o h1 h2 => (h e o h1 h2).symm)

/-- where the order stands: `X` is done; the state is that of place j, with slots of its own and without the variables that aren't made yet -/
structure At (callF : CallF) (L : List SOper) (s s1 : St) (N : Nat) (b : Array Nat) (X : List Nat) (j : Nat) (T : List AV) (U : List Nat) : Prop where
  jN : j ≤ N
  eff : ∀ e o, L[e]? = some o → effect o.op = true → (e ∈ X ↔ e < j)
  cls : ∀ i ∈ X, ∀ k, bef b k i = true → k ∈ X
  run : ∀ i ∈ X, i < N ∨ (N < i)
  len : T.length = s1.tmps.length
  done : ∀ i ∈ X, i < N → ∀ o t, L[i]? = some o → o.dst = some t → T[t]? = (stAt callF L s1 (i + 1)).tmps[t]?
  rest : ∀ t, (∀ i ∈ X, ∀ o, L[i]? = some o → o.dst ≠ some t) → T[t]? = s.tmps[t]?
  hid : ∀ t, t ∈ U ↔ ∃ q o, q ∉ X ∧ L[q]? = some o ∧ isAllocL o.op = true ∧ o.dst = some t
  zero : ∀ q o z t, q ∉ X → L[q]? = some o → o.op = .allocL z → o.dst = some t → (stAt callF L s1 j).loc[t]? = some (some z)

variable {s : St} {N : Nat} {b : Array Nat} {X : List Nat} {j : Nat} {T : List AV} {U : List Nat}

theorem At.eff_lt (hG : DGood b L) (h : At callF L s s1 N b X j T U) {i : Nat} {o : SOper} (ho : L[i]? = some o) (he : effect o.op = true) (hi : i ∉ X) (hp : ∀ k, bef b k i = true → k ∈ X) :
    ∀ e oe, L[e]? = some oe → effect oe.op = true → (e ∈ X ↔ e < i) := by
  intro e oe hoe hee
  constructor
  · intro hX
    refine Classical.byContradiction fun hn => ?_
    have hne : e ≠ i := fun e' => hi (e' ▸ hX)
    exact hi (h.cls e hX i (hG.chain i e o oe ho hoe he hee (by omega)))
  · intro hlt
    exact hp e (hG.chain e i oe o hoe ho hee he hlt)

theorem At.step (hG : DGood b L) (h : At callF L s s1 N b X j T U) {i : Nat} {o : SOper} (ho : L[i]? = some o) (hi : i ∉ X) (hp : ∀ k, bef b k i = true → k ∈ X) (hN : i < N ∨ (N < i ∧ effect o.op = false))
    {j' : Nat} (hj' : j' ≤ N) (hj : if effect o.op then j' = i + 1 else j' = j) {v : AV} {U' : List Nat}
    (hv : i < N → ∀ t, o.dst = some t → (putL T o.dst v)[t]? = (stAt callF L s1 (i + 1)).tmps[t]?)
    (hU : ∀ t, t ∈ U' ↔ t ∈ U ∧ ¬ (isAllocL o.op = true ∧ o.dst = some t))
    (hz : ∀ q oq z t, q ∉ X → q ≠ i → L[q]? = some oq → oq.op = .allocL z → oq.dst = some t → (stAt callF L s1 j').loc[t]? = some (some z)) :
    At callF L s s1 N b (i :: X) j' (putL T o.dst v) U' := by
  refine ⟨hj', fun e oe hoe hee => ?_, fun k hk m hm => ?_, fun k hk => ?_, by rw [putL_len]; exact h.len, fun k hk hkN ok t hok ht => ?_, fun t ht => ?_, fun t => ?_, fun q oq z t hq => ?_⟩
  · by_cases he : effect o.op = true
    · rw [if_pos he] at hj
      have := h.eff_lt hG ho he hi hp e oe hoe hee
      rw [List.mem_cons, this]; omega
    · rw [if_neg he] at hj
      rw [hj, ← h.eff e oe hoe hee, List.mem_cons]
      constructor
      · rintro (rfl | h)
        · rw [ho] at hoe; cases hoe; exact absurd hee he
        · exact h
      · exact .inr
  · rcases List.mem_cons.1 hk with rfl | hk
    · exact List.mem_cons_of_mem _ (hp m hm)
    · exact List.mem_cons_of_mem _ (h.cls k hk m hm)
  · rcases List.mem_cons.1 hk with rfl | hk
    · exact hN.imp id (·.1)
    · exact h.run k hk
  · rcases List.mem_cons.1 hk with rfl | hk
    · rw [ho] at hok; cases hok
      exact hv hkN t ht
    · rw [putL_other, h.done k hk hkN ok t hok ht]
      intro e
      have := hG.uniq i k o ok t ho hok e ht
      exact hi (this ▸ hk)
  · rw [putL_other (ht i (List.mem_cons_self ..) o ho)]
    exact h.rest t fun k hk ok hok => ht k (List.mem_cons_of_mem _ hk) ok hok
  · rw [hU, h.hid]
    constructor
    · rintro ⟨⟨q, oq, h1, h2, h3, h4⟩, h5⟩
      refine ⟨q, oq, ?_, h2, h3, h4⟩
      intro hm
      rcases List.mem_cons.1 hm with rfl | hm
      · rw [ho] at h2; cases h2; exact h5 ⟨h3, h4⟩
      · exact h1 hm
    · rintro ⟨q, oq, h1, h2, h3, h4⟩
      refine ⟨⟨q, oq, fun hm => h1 (List.mem_cons_of_mem _ hm), h2, h3, h4⟩, fun ⟨_, h6⟩ => ?_⟩
      have := hG.uniq i q o oq t ho h2 h6 h4
      exact h1 (this ▸ List.mem_cons_self ..)
  · intro h1 h2 h3
    exact hz q oq z t (fun hm => hq (List.mem_cons_of_mem _ hm)) (fun e => hq (e ▸ List.mem_cons_self ..)) h1 h2 h3

/-- an operation reads what it reads in the text's order -/
theorem At.slot (hG : DGood b L) (h : At callF L s s1 N b X j T U) (hs : ∀ t : Nat, (∀ (q : Nat) (o : SOper), L[q]? = some o → isAllocL o.op = true → o.dst ≠ some t) → s1.tmps[t]? = s.tmps[t]?) {i : Nat} {o : SOper} (ho : L[i]? = some o) (hi : i ∉ X) (hp : ∀ k, bef b k i = true → k ∈ X) (hN : i ≤ N)
    {t : Nat} (ht : t ∈ soperT o) : T[t]? = (stAt callF L s1 i).tmps[t]? := by
  by_cases hw : ∃ (q : Nat) (oq : SOper), L[q]? = some oq ∧ oq.dst = some t
  · obtain ⟨q, oq, hq, hd⟩ := hw
    have huniq : ∀ (m : Nat) (om : SOper), L[m]? = some om → om.dst = some t → m = q := fun m om hm he => hG.uniq m q om oq t hm hq he hd
    have hb := hG.tmps i q o oq t ho hq ht hd
    by_cases hlt : q < i
    · rw [if_pos hlt] at hb
      have hqX := hp q hb
      rw [h.done q hqX (by omega) oq t hq hd]
      exact (stAt_slot' (by omega) fun m om h1 h2 hm he => by have := huniq m om hm he; omega).symm
    · rw [if_neg hlt] at hb
      have hqX : q ∉ X := by
        rcases hb with rfl | hb
        · exact hi
        · exact fun hm => hi (h.cls q hm i hb)
      have hna : ∀ (q' : Nat) (o' : SOper), L[q']? = some o' → isAllocL o'.op = true → o'.dst ≠ some t := by
        intro q' o' h1 h2 h3
        have := huniq q' o' h1 h3
        subst this
        exact hG.allocT i q' o o' t ho h1 h2 h3 (by omega) ht
      rw [h.rest t fun m hm om hom he => hqX (huniq m om hom he ▸ hm), ← hs t hna]
      exact (stAt_slot' (Nat.zero_le _) fun m om _ h2 hm he => by have := huniq m om hm he; omega).symm
  · have hno : ∀ (q : Nat) (oq : SOper), L[q]? = some oq → oq.dst ≠ some t := fun q oq h1 h2 => hw ⟨q, oq, h1, h2⟩
    rw [h.rest t fun m _ om hom => hno m om hom, ← hs t fun q o h1 _ => hno q o h1]
    exact (stAt_slot' (Nat.zero_le _) fun m om _ _ hm => hno m om hm).symm

theorem At.ev (hG : DGood b L) (h : At callF L s s1 N b X j T U) (hs : ∀ t : Nat, (∀ (q : Nat) (o : SOper), L[q]? = some o → isAllocL o.op = true → o.dst ≠ some t) → s1.tmps[t]? = s.tmps[t]?) {i : Nat} {o : SOper} (ho : L[i]? = some o) (hi : i ∉ X) (hp : ∀ k, bef b k i = true → k ∈ X) (hN : i ≤ N) (x : Opd) (hx : x ∈ opds o.op) (s2 : St) :
    Go.PM.ev (s2.sub T U) x = Go.PM.ev (stAt callF L s1 i) x := by
  cases x with
  | k v => rfl
  | t n =>
    have : n ∈ soperT o := by
      unfold soperT sopT
      refine List.mem_append_right _ (List.mem_flatMap.2 ⟨_, hx, by simp [opdT]⟩)
    have := h.slot hG hs ho hi hp hN this
    simp only [Go.PM.ev, St.sub, List.getD_eq_getElem?_getD, this]

theorem At.guard (hG : DGood b L) (h : At callF L s s1 N b X j T U) (hs : ∀ t : Nat, (∀ (q : Nat) (o : SOper), L[q]? = some o → isAllocL o.op = true → o.dst ≠ some t) → s1.tmps[t]? = s.tmps[t]?) {i : Nat} {o : SOper} (ho : L[i]? = some o) (hi : i ∉ X) (hp : ∀ k, bef b k i = true → k ∈ X) (hN : i ≤ N) (s2 : St) :
    wantedS (s2.sub T U) o.guard = wantedS (stAt callF L s1 i) o.guard := by
  cases hg : o.guard with
  | none => rfl
  | some p =>
    obtain ⟨t, wt⟩ := p
    have : t ∈ soperT o := by unfold soperT; rw [hg]; simp
    have := h.slot hG hs ho hi hp hN this
    simp only [wantedS, St.sub, List.getD_eq_getElem?_getD, this]

end
end Go.PM

/- A region that draws its order: the theorem. -/
namespace Go.PM

section
variable {P : Program} {H : Hints} {B d : Nat} {g : G} {a : Act} {u : FrameMode} {w : World}

theorem Rel.forget {s : St} {T : List AV} {U : List Nat} (h : Rel B d g (s.sub T U) a w) (hl : T.length = s.tmps.length) : Rel B d g (forget s) a w := by
  obtain ⟨hi, ⟨L, R, hf⟩, hd⟩ := h
  refine ⟨hi, ⟨L, R, ?_⟩, hd⟩
  have hsz := hf.sz
  have hls := hf.ls
  simp only [St.sub, hide, List.length_mapIdx] at hsz hls
  refine ⟨by simp [Go.PM.forget]; omega, by simp [Go.PM.forget]; omega, fun t av v h1 h2 => ?_, fun t cs h1 => ?_, hf.rg, hf.rk, hf.lv, hf.lk, fun t t' off h1 => ?_⟩
  · simp only [Go.PM.forget, List.getElem?_map, Option.map_eq_some_iff] at h1
    obtain ⟨_, _, rfl⟩ := h1
    exact ⟨.undef _, trivial⟩
  · simp only [Go.PM.forget, List.getElem?_map, Option.map_eq_some_iff] at h1
    obtain ⟨_, _, h1⟩ := h1
    cases h1
  · simp only [Go.PM.forget, List.getElem?_map, Option.map_eq_some_iff] at h1
    obtain ⟨_, _, h1⟩ := h1
    cases h1

theorem noHidden {s : St} {T : List AV} {U : List Nat} (h : Rel B d g (s.sub T U) a w) {x : Opd} (hp : plainK x = true) : ∀ t o, ev (s.sub T U) x = .lref t o → t ∉ U := by
  intro t o e hU
  cases x with
  | k v => simp only [ev] at e; subst e; simp [plainK] at hp
  | t n =>
    obtain ⟨_, ⟨L, R, hf⟩, _⟩ := h
    simp only [ev, List.getD_eq_getElem?_getD] at e
    have hn : (s.sub T U).tmps[n]? = some (.lref t o) := by
      cases hh : (s.sub T U).tmps[n]? with
      | none => rw [hh] at e; simp at e
      | some y => rw [hh] at e; simp at e; rw [e]
    obtain ⟨cs, hc⟩ := hf.st n t o hn
    simp only [St.sub, hide_get, Option.map_eq_some_iff] at hc
    obtain ⟨y, _, hy⟩ := hc
    rw [if_pos (by simpa using hU)] at hy
    cases hy

theorem readOf_ev {s s2 : St} {op : SOp} (hE : ∀ x ∈ opds op, ev s2 x = ev s x) : readOf s2 op = readOf s op := by
  cases op <;> first | rfl | skip
  case load ag n x tk => cases tk <;> simp only [readOf]; rw [hE x (by simp [opds])]
  case rcall f args =>
    simp only [readOf]
    rw [hE f (by simp [opds]), List.map_congr_left fun x hx => hE x (by simp [opds, hx])]

theorem readAt_sub {callF : CallF} {s : St} {T : List AV} {U : List Nat} {q : Rq} (h : ∀ x ag n, q = .ld x ag n → ∀ t o, x = .lref t o → t ∉ U) : readAt callF (s.sub T U) q = readAt callF s q := by
  cases q with
  | ld x ag n => exact loadAt_sub (h x ag n rfl)
  | rc g args => rfl

theorem cOpers_get {ops : Array Oper} : ∀ {os : List Oper} {l : List SOper}, cOpers P H ops os = some l → l.length = os.length ∧ ∀ (i : Nat) o, os[i]? = some o → ∃ so, l[i]? = some so ∧ cOper P H ops o 0 0 = some so
  | [], l, h => by
    simp only [cOpers, Option.some.injEq] at h
    subst h
    exact ⟨rfl, fun i o h => by simp at h⟩
  | x :: os, l, h => by
    simp only [cOpers] at h
    split at h
    · rename_i so q h1 h2
      cases h
      obtain ⟨c1, c2⟩ := cOpers_get h2
      refine ⟨by simp [c1], fun i o ho => ?_⟩
      cases i with
      | zero => simp at ho; subst ho; exact ⟨so, rfl, h1⟩
      | succ i => simp at ho; obtain ⟨s2, d1, d2⟩ := c2 i o ho; exact ⟨s2, by simpa using d1, d2⟩
    · cases h

theorem filter_len_le {p q : Nat → Bool} (l : List Nat) (h : ∀ x ∈ l, p x = true → q x = true) : (l.filter p).length ≤ (l.filter q).length := by
  rw [← List.countP_eq_length_filter, ← List.countP_eq_length_filter]
  exact List.countP_mono_left h

theorem sub_self {s : St} {U : List Nat} (h : ∀ t, t ∉ U) : s.sub s.tmps U = s := by
  have : hide U s.loc = s.loc := List.ext_getElem? fun i => hide_out (h i)
  simp only [St.sub, this]

variable {callF : CallF} {ops : Array Oper} {l L : List SOper} {s s1 : St} {ex : Ex} {s' : St} {N : Nat} {dfd : Bool}

theorem draw_ord (hC : CallOk P B (d + 1) callF) (hc : cOpers P H ops ops.toList = some l) (hL : L = annot (Region.before ops) (effs l) l) (hG : DGood (Region.before ops) L) (hN : N ≤ L.length) (hT : Trace callF L s1 ex s' N)
    (hs : ∀ t : Nat, (∀ (q : Nat) (o : SOper), L[q]? = some o → isAllocL o.op = true → o.dst ≠ some t) → s1.tmps[t]? = s.tmps[t]?) (hA1 : ∀ (q : Nat) (o : SOper) (z : List AV) (t : Nat), L[q]? = some o → o.op = .allocL z → o.dst = some t → t < s1.tmps.length → s1.tmps[t]? = some (.lref t 0)) :
    ∀ (ord X : List Nat) (j : Nat) (T : List AV) (U : List Nat) (g : G) (a : Act) (u : FrameMode) (w : World), Lin (Region.before ops) ops.size X ord → At callF L s s1 N (Region.before ops) X j T U →
      Rel B d g ((stAt callF L s1 j).sub T U) a w → ModeR g (stAt callF L s1 j).pan (stAt callF L s1 j).recd u → (stAt callF L s1 j).pan.isSome = dfd →
      RegTo P dfd ops (Post B d dfd g w ex s') ord a u w := by
  obtain ⟨hcl, hcg⟩ := cOpers_get hc
  have hLl : L.length = ops.size := by rw [hL]; simp [annot, hcl]
  intro ord
  induction ord with
  | nil =>
    intro X j T U g a u w hl hA h hm hdf
    simp only [Lin] at hl
    rcases hT.fin with ⟨hNL, rfl, rfl⟩ | ⟨o, v, s2, ho, _⟩
    · have hcore : (stAt callF L s1 j).core = (stAt callF L s1 N).core := by
        refine stAt_core' hT.ran hA.jN (Nat.le_refl _) fun e oe h1 h2 => ?_
        have hlt := (List.getElem?_eq_some_iff.1 h1).1
        rw [← hA.eff e oe h1 h2]
        exact ⟨fun _ => by omega, fun _ => hl e (by omega)⟩
      have hU : ∀ t, t ∉ U := fun t ht => by
        obtain ⟨q, o, h1, h2, _⟩ := (hA.hid t).1 ht
        have hlt := (List.getElem?_eq_some_iff.1 h2).1
        exact h1 (hl q (by omega))
      have hTe : T = (stAt callF L s1 N).tmps := by
        apply List.ext_getElem?
        intro t
        by_cases hw : ∃ (q : Nat) (oq : SOper), L[q]? = some oq ∧ oq.dst = some t
        · obtain ⟨q, oq, hq, hd⟩ := hw
          have hlt := (List.getElem?_eq_some_iff.1 hq).1
          rw [hA.done q (hl q (by omega)) (by omega) oq t hq hd]
          exact (stAt_slot' (by omega) fun m om h1 _ hm' he => by have := hG.uniq m q om oq t hm' hq he hd; omega).symm
        · have hno : ∀ (q : Nat) (oq : SOper), L[q]? = some oq → oq.dst ≠ some t := fun q oq h1 h2 => hw ⟨q, oq, h1, h2⟩
          rw [hA.rest t fun m _ om hom => hno m om hom, ← hs t fun q o h1 _ => hno q o h1]
          exact (stAt_slot' (Nat.zero_le _) fun m om _ _ hm => hno m om hm).symm
      have hM : (stAt callF L s1 j).sub T U = stAt callF L s1 N := by
        rw [sub_core hcore, hTe]; exact sub_self hU
      rw [hM] at h
      have p1 := congrArg St.pan hcore
      have p2 := congrArg St.recd hcore
      simp only [St.core] at p1 p2
      rw [p1, p2] at hm
      rw [p1] at hdf
      exact ⟨g, .refl B d g w, h, hm, trivial, hdf⟩
    · exfalso
      have hlt := (List.getElem?_eq_some_iff.1 ho).1
      rcases hA.run N (hl N (by omega)) with h | h <;> omega
  | cons i ord ih =>
    intro X j T U g a u w hl hA h hm hdf
    obtain ⟨hin, hiX, hpre, hl'⟩ := hl
    obtain ⟨so, hso, hco⟩ := hcg i ops[i] (by simp [hin])
    obtain ⟨c1, c2, c3⟩ := cOper_ok hco
    obtain ⟨o, ho⟩ := annot_some (Region.before ops) (effs l) l i hso
    obtain ⟨o0, ho0, e1, e2, e3, _⟩ := annot_get _ _ _ _ _ ho
    rw [hso] at ho0; cases ho0
    rw [← hL] at ho
    rw [← e1] at c1
    rw [← e3] at c2
    rw [← e2] at c3
    refine ⟨ops[i], Array.getElem?_eq_getElem hin, ?_⟩
    -- going on
    have cont : ∀ (j' : Nat) (v : AV) (U' : List Nat) (g1 : G) (a1 : Act) (u1 : FrameMode) (w1 : World) (s3 : St), At callF L s s1 N (Region.before ops) (i :: X) j' (putL T o.dst v) U' → s3 = (stAt callF L s1 j').sub (putL T o.dst v) U' →
        Keep B d g w g1 w1 → Rel B d g1 s3 a1 w1 → ModeR g1 s3.pan s3.recd u1 → s3.pan.isSome = dfd → RegTo P dfd ops (Post B d dfd g w ex s') ord a1 u1 w1 := by
      intro j' v U' g1 a1 u1 w1 s3 hA' hs3 hk hr hm' hd'
      subst hs3
      exact RegTo.mono (fun e a u w q => q.trans hk) (ih (i :: X) j' _ U' g1 a1 u1 w1 hl' hA' hr hm' hd')
    have hM : ModeR g ((stAt callF L s1 j).sub T U).pan ((stAt callF L s1 j).sub T U).recd u := hm
    have hMd : ((stAt callF L s1 j).sub T U).pan.isSome = dfd := hdf
    by_cases ha : isAllocL o.op = true
    · -- a local variable is made
      obtain ⟨z, hz⟩ : ∃ z, o.op = .allocL z := by
        cases hop : o.op <;> rw [hop] at ha <;> simp [isAllocL] at ha
        exact ⟨_, rfl⟩
      obtain ⟨hg, t, hd⟩ := hG.allocG i o ho ha
      have hw : Region.wanted ops[i] (yielded ops a.tmps) = true := guard_ok c2 (by rw [hg]; rfl) h
      rw [if_pos hw]
      have htU : t ∈ U := (hA.hid t).2 ⟨i, o, hiX, ho, ha, hd⟩
      have hzero := hA.zero i o z t hiX ho hz hd
      have htl : t < s1.tmps.length := by
        obtain ⟨_, ⟨_, _, hf⟩, _⟩ := h
        have := (List.getElem?_eq_some_iff.1 hzero).1
        have hls := hf.ls
        simp only [St.sub, hide, List.length_mapIdx] at hls
        rw [hls] at this
        rw [hA.len] at this
        exact this
      have hloc : ((stAt callF L s1 j).sub T U).loc[t]? = some none := by
        simp only [St.sub, hide_get, hzero, Option.map_some]
        rw [if_pos (by simpa using htU)]
      have hset : (hide U (stAt callF L s1 j).loc).set t (some z) = hide (U.filter fun x => x != t) (stAt callF L s1 j).loc := by
        apply List.ext_getElem?
        intro k
        rw [List.getElem?_set, hide_get, hide_get]
        by_cases ek : t = k
        · subst ek
          rw [if_pos rfl, if_pos (by simp [hide]; exact (List.getElem?_eq_some_iff.1 hzero).1), hzero]
          simp
        · rw [if_neg ek]
          have : (U.filter fun x => x != t).contains k = U.contains k := by
            rw [Bool.eq_iff_iff]; simp [Ne.symm ek]
          rw [this]
      have hstep : stepOp callF ops[i].dst o.op ((stAt callF L s1 j).sub T U) = some (.val (.lref t 0) ((stAt callF L s1 j).sub T (U.filter fun x => x != t))) := by
        rw [← c3, hd, hz]
        simp only [stepOp, hloc]
        congr 2
        simp only [St.sub, hset]
      refine one_to c1 hC hstep h hM hMd (fun s3 a1 u1 w1 g1 e k1 r1 m1 d1 => ?_) (fun p s3 u1 w1 g1 v e => by cases e)
      simp only [ORes.next, Option.some.injEq] at e
      rw [← c3, sub_put] at e
      have hne : i ≠ N := by
        rintro rfl
        rcases hT.fin with ⟨hNL, _⟩ | ⟨o', v, s2, ho', hna, _⟩
        · omega
        · rw [ho] at ho'; cases ho'; rw [ha] at hna; cases hna
      refine cont j (.lref t 0) _ g1 a1 u1 w1 s3 (hA.step hG ho hiX hpre ?_ hA.jN (by rw [if_neg (by rw [effect_not_alloc ha]; simp)]) ?_ (fun k => ?_) ?_) e.symm k1 r1 m1 d1
      · rcases Nat.lt_or_gt_of_ne hne with hlt | hlt
        · exact .inl hlt
        · exact .inr ⟨hlt, effect_not_alloc ha⟩
      · intro hlt k hk
        rw [hd] at hk; cases hk
        rw [hd]
        have h3 : (stAt callF L s1 (i + 1)).tmps[t]? = s1.tmps[t]? := by
          refine (stAt_slot' (i := i + 1) (j := i + 1) (Nat.le_refl _) (fun m om h1 h2 => by omega)).trans ?_
          rw [stAt_succ ho, nxt, if_pos ha]
          exact stAt_slot' (Nat.zero_le _) fun m om _ h2 hm he => by have := hG.uniq m i om o t hm ho he hd; omega
        rw [h3, hA1 i o z t ho hz hd htl]
        simp only [putL]
        rw [List.getElem?_set, if_pos rfl, if_pos (by rw [hA.len]; exact htl)]
      · simp only [List.mem_filter, bne_iff_ne, ne_eq, ha, true_and, hd, Option.some.injEq]
        constructor
        · rintro ⟨h1, h2⟩; exact ⟨h1, fun e => h2 e.symm⟩
        · rintro ⟨h1, h2⟩; exact ⟨h1, fun e => h2 e.symm⟩
      · intro q oq z' t' hq hqi h1 h2 h3
        exact hA.zero q oq z' t' hq h1 h2 h3
    · have ha' : isAllocL o.op = false := by simpa using ha
      have hdU : ∀ t, o.dst = some t → t ∉ U := by
        intro t hd ht
        obtain ⟨q, oq, h1, h2, h3, h4⟩ := (hA.hid t).1 ht
        have := hG.uniq q i oq o t h2 ho h4 hd
        subst this
        rw [ho] at h2; cases h2
        exact ha h3
      have hUsame : ∀ t, t ∈ U ↔ t ∈ U ∧ ¬ (isAllocL o.op = true ∧ o.dst = some t) := fun t => ⟨fun h => ⟨h, fun h' => ha h'.1⟩, fun h => h.1⟩
      rcases Nat.lt_trichotomy i N with hlt | hiN | hgt
      · -- ahead of the end
        obtain ⟨b, hwb, hrun⟩ := hT.ran i hlt o ho ha'
        have hE : ∀ x ∈ opds o.op, ∀ s2 : St, ev (s2.sub T U) x = ev (stAt callF L s1 i) x := fun x hx s2 => hA.ev hG hs ho hiX hpre (by omega) x hx s2
        have hgd : ∀ s2 : St, wantedS (s2.sub T U) o.guard = some b := fun s2 => by rw [hA.guard hG hs ho hiX hpre (by omega) s2]; exact hwb
        have hw := guard_ok c2 (hgd _) h
        have hlen : T.length = (stAt callF L s1 i).tmps.length := by rw [stAt_len]; exact hA.len
        by_cases he : effect o.op = true
        · -- an effect
          have hcore : (stAt callF L s1 j).core = (stAt callF L s1 i).core := by
            refine stAt_core' hT.ran hA.jN (by omega) fun e oe h1 h2 => ?_
            rw [← hA.eff e oe h1 h2]
            exact hA.eff_lt hG ho he hiX hpre e oe h1 h2
          have hsub := sub_core hcore T U
          have hlocj := congrArg St.loc hcore
          simp only [St.core] at hlocj
          rw [hsub] at h hM hMd
          have hUl : ∀ x ∈ opds o.op, ∀ t o', ev (stAt callF L s1 i) x = .lref t o' → t ∉ U := fun x hx t o' e => noHidden h (hG.plain i o ho x hx) t o' (by rw [hE x hx]; exact e)
          cases b with
          | false =>
            rw [hw]
            simp only [Bool.false_eq_true, if_false]
            have hn : stAt callF L s1 (i + 1) = (stAt callF L s1 i).put o.dst (.tup []) := by rw [stAt_succ ho, nxt, if_neg ha, hwb]
            obtain ⟨_, _, q3, q4⟩ := St.put_same ((stAt callF L s1 i).sub T U) o.dst (.tup [])
            refine cont (i + 1) (.tup []) U g _ u w (((stAt callF L s1 i).sub T U).put o.dst (.tup [])) (hA.step hG ho hiX hpre (.inl hlt) hlt (by rw [if_pos he]) ?_ hUsame ?_) ?_ (.refl B d g w) (by rw [← c3]; exact undef_put (o := ops[i]) h) (by rw [q3, q4]; exact hM) (by rw [q3]; exact hMd)
            · intro _ t ht
              rw [hn, put_tmps_get _ _ _ 0, ht]
              exact putL_same hlen
            · intro q oq z t hq hqi h1 h2 h3
              rw [hn]
              have : ((stAt callF L s1 i).put o.dst (.tup [])).loc = (stAt callF L s1 i).loc := by cases o.dst <;> rfl
              rw [this, ← hlocj]
              exact hA.zero q oq z t hq h1 h2 h3
            · rw [sub_put]; exact sub_core (by rw [hn, core_put]) _ _
          | true =>
            rw [hw]
            simp only [if_true]
            obtain ⟨r, hr, hrk⟩ := hrun rfl
            have hstep := stepOp_sub (callF := callF) (dst := o.dst) (op := o.op) (s := stAt callF L s1 i) (T := T) (U := U) (fun x hx => hE x hx _) hUl hdU
            rw [hr, Option.map_some, c3] at hstep
            have hfin : ∀ (v : AV) (s2 : St), ((∃ v, r = .val v s2) ∨ r = .skp s2) → stAt callF L s1 (i + 1) = s2.put o.dst v → ∀ (s3 : St) (a1 : Act) (u1 : FrameMode) (w1 : World) (g1 : G), (s2.sub T U).put ops[i].dst v = s3 →
                Keep B d g w g1 w1 → Rel B d g1 s3 a1 w1 → ModeR g1 s3.pan s3.recd u1 → s3.pan.isSome = dfd → RegTo P dfd ops (Post B d dfd g w ex s') ord a1 u1 w1 := by
              intro v s2 hrv hn s3 a1 u1 w1 g1 e k1 r1 m1 d1
              have htm : s2.tmps = (stAt callF L s1 i).tmps := stepOp_tmps hr (hrv.elim .inl fun h => .inr (.inl h))
              rw [← c3, sub_put] at e
              refine cont (i + 1) v U g1 a1 u1 w1 s3 (hA.step hG ho hiX hpre (.inl hlt) hlt (by rw [if_pos he]) ?_ hUsame ?_) ?_ k1 r1 m1 d1
              · intro _ t ht
                rw [hn, put_tmps_get _ _ _ 0, ht]
                exact putL_same (by rw [htm]; exact hlen)
              · intro q oq z t hq hqi h1 h2 h3
                have : ((s2.put o.dst v)).loc = s2.loc := by cases o.dst <;> rfl
                have htU : t ∈ U := (hA.hid t).2 ⟨q, oq, hq, h1, by rw [h2]; rfl, h3⟩
                rw [hn, this, stepOp_loc hr hrv (fun e => hdU t e htU) (fun x hx o' e => hUl x hx t o' e htU), ← hlocj]
                exact hA.zero q oq z t hq h1 h2 h3
              · rw [← e]; exact sub_core (by rw [hn, core_put]) _ _
            refine one_to c1 hC hstep h hM hMd (fun s3 a1 u1 w1 g1 e k1 r1 m1 d1 => ?_) (fun p s3 u1 w1 g1 v e => ?_)
            · rcases hrk with ⟨v, s2, rfl⟩ | ⟨_, s2, rfl⟩
              · simp only [ORes.sub, ORes.next, Option.some.injEq] at e
                exact hfin v s2 (.inl ⟨v, rfl⟩) (by rw [stAt_succ ho, nxt, if_neg ha, hwb]; simp only [hr]) s3 a1 u1 w1 g1 e k1 r1 m1 d1
              · simp only [ORes.sub, ORes.next, Option.some.injEq] at e
                exact hfin (.tup []) s2 (.inr rfl) (by rw [stAt_succ ho, nxt, if_neg ha, hwb]; simp only [hr]) s3 a1 u1 w1 g1 e k1 r1 m1 d1
            · rcases hrk with ⟨v', s2, rfl⟩ | ⟨_, s2, rfl⟩ <;> cases e
        · -- it writes nothing
          have he' : effect o.op = false := by simpa using he
          have hjj : if effect o.op then j = i + 1 else j = j := by rw [if_neg he]
          cases b with
          | false =>
            rw [hw]
            simp only [Bool.false_eq_true, if_false]
            have hn : stAt callF L s1 (i + 1) = (stAt callF L s1 i).put o.dst (.tup []) := by rw [stAt_succ ho, nxt, if_neg ha, hwb]
            obtain ⟨_, _, q3, q4⟩ := St.put_same ((stAt callF L s1 j).sub T U) o.dst (.tup [])
            refine cont j (.tup []) U g _ u w (((stAt callF L s1 j).sub T U).put o.dst (.tup [])) (hA.step hG ho hiX hpre (.inl hlt) hA.jN hjj ?_ hUsame (fun q oq z t hq _ => hA.zero q oq z t hq)) (sub_put _ _ _ _ _) (.refl B d g w) (by rw [← c3]; exact undef_put (o := ops[i]) h) (by rw [q3, q4]; exact hM) (by rw [q3]; exact hMd)
            intro _ t ht
            rw [hn, put_tmps_get _ _ _ 0, ht]
            exact putL_same hlen
          | true =>
            rw [hw]
            simp only [if_true]
            obtain ⟨r, hr, _⟩ := hrun rfl
            obtain ⟨v, rfl⟩ := stepOp_quiet he' ha' hr
            have hstep : stepOp callF o.dst o.op ((stAt callF L s1 j).sub T U) = some (.val v ((stAt callF L s1 j).sub T U)) := by
              cases hq : readOf (stAt callF L s1 i) o.op with
              | none => exact stepOp_unread he' ha' hq hr fun x hx => hE x hx _
              | some q =>
                have hq' : readOf ((stAt callF L s1 j).sub T U) o.op = some q := by rw [readOf_ev (fun x hx => hE x hx _)]; exact hq
                rw [stepOp_read hq', readAt_sub]
                · obtain ⟨v', hv1, hv2⟩ := hT.reads i hlt o q ho ha' hwb he' hq
                  rw [hr] at hv1
                  simp only [Option.some.injEq, ORes.val.injEq, and_true] at hv1
                  subst hv1
                  obtain ⟨hlo, hhi⟩ := hG.loR i o ho he'
                  rw [hv2 j hA.jN ?_ ?_]
                  · rfl
                  · rw [hlo, kOf_filter]
                    refine filter_len_le _ fun x hx hb => ?_
                    obtain ⟨ox, hox, hex⟩ := mem_effs.1 hx
                    simpa using (hA.eff x ox hox hex).1 (hpre x hb)
                  · rw [hhi, kOf_filter]
                    refine filter_len_le _ fun x hx hb => ?_
                    obtain ⟨ox, hox, hex⟩ := mem_effs.1 hx
                    have hxX := (hA.eff x ox hox hex).2 (by simpa using hb)
                    cases hbi : bef (Region.before ops) i x with
                    | false => rfl
                    | true => exact absurd (hA.cls x hxX i hbi) hiX
                · intro y ag n e t o' ey
                  subst e
                  have : ∃ x ∈ opds o.op, y = ev ((stAt callF L s1 j).sub T U) x := by
                    cases hop : o.op <;> rw [hop] at hq' <;> simp only [readOf, reduceCtorEq] at hq'
                    · rename_i tk
                      cases tk <;> simp only [Option.some.injEq, Rq.ld.injEq, reduceCtorEq] at hq'
                      exact ⟨_, by simp [opds], hq'.1.symm⟩
                    · split at hq' <;> cases hq'
                  obtain ⟨x, hx, rfl⟩ := this
                  exact noHidden h (hG.plain i o ho x hx) t o' ey
            rw [c3] at hstep
            refine one_to c1 hC hstep h hM hMd (fun s3 a1 u1 w1 g1 e k1 r1 m1 d1 => ?_) (fun p s3 u1 w1 g1 v e => by cases e)
            simp only [ORes.next, Option.some.injEq] at e
            rw [← c3, sub_put] at e
            refine cont j v U g1 a1 u1 w1 s3 (hA.step hG ho hiX hpre (.inl hlt) hA.jN hjj ?_ hUsame (fun q oq z t hq _ => hA.zero q oq z t hq)) e.symm k1 r1 m1 d1
            intro _ t ht
            have hn : stAt callF L s1 (i + 1) = (stAt callF L s1 i).put o.dst v := by rw [stAt_succ ho, nxt, if_neg ha, hwb]; simp only [hr]
            rw [hn, put_tmps_get _ _ _ 0, ht]
            exact putL_same hlen
      · -- the panic
        subst hiN
        rcases hT.fin with ⟨hNL, _⟩ | ⟨o', v, s2, ho', hna, hwb, hsp, hlo, rfl, rfl⟩
        · omega
        · rw [ho] at ho'; cases ho'
          have he := stepOp_pan_effect hsp
          have hE : ∀ x ∈ opds o.op, ∀ s2 : St, ev (s2.sub T U) x = ev (stAt callF L s1 i) x := fun x hx s2 => hA.ev hG hs ho hiX hpre (Nat.le_refl _) x hx s2
          have hw := guard_ok c2 (by rw [hA.guard hG hs ho hiX hpre (Nat.le_refl _) _]; exact hwb) h
          rw [hw]
          simp only [if_true]
          have hcore : (stAt callF L s1 j).core = (stAt callF L s1 i).core := by
            refine stAt_core' hT.ran hA.jN (Nat.le_refl _) fun e oe h1 h2 => ?_
            rw [← hA.eff e oe h1 h2]
            exact hA.eff_lt hG ho he hiX hpre e oe h1 h2
          have hsub := sub_core hcore T U
          rw [hsub] at h hM hMd
          have hUl : ∀ x ∈ opds o.op, ∀ t o', ev (stAt callF L s1 i) x = .lref t o' → t ∉ U := fun x hx t o' e => noHidden h (hG.plain i o ho x hx) t o' (by rw [hE x hx]; exact e)
          have hstep := stepOp_sub (callF := callF) (dst := o.dst) (op := o.op) (s := stAt callF L s1 i) (T := T) (U := U) (fun x hx => hE x hx _) hUl hdU
          rw [hsp, Option.map_some, c3] at hstep
          have htm : s2.tmps = (stAt callF L s1 i).tmps := stepOp_tmps hsp (.inr (.inr ⟨v, rfl⟩))
          refine one_to c1 hC hstep h hM hMd (fun s3 a1 u1 w1 g1 e => by cases e) (fun p s3 u1 w1 g1 x e k1 r1 m1 d1 hx => ?_)
          cases e
          exact ⟨g1, k1, r1.forget (by rw [htm, stAt_len]; exact hA.len), m1, ⟨x, rfl, hx⟩, d1⟩
      · -- behind the panic
        rcases hT.fin with ⟨hNL, _⟩ | ⟨oN, v, s2, hoN, hna, hwb, hsp, hlo, rfl, rfl⟩
        · omega
        · have heN := stepOp_pan_effect hsp
          have hcalm : calm o.op = true := by
            rcases hG.loE N i oN o hoN ho heN hlo with h1 | h1 | h1
            · omega
            · rcases hA.run N (hpre N h1) with h2 | h2 <;> omega
            · exact h1
          obtain ⟨x, hx⟩ : ∃ x, o.op = .mv x := by
            cases hop : o.op <;> rw [hop] at hcalm ha' <;> simp [calm, isAllocL] at hcalm ha'
            exact ⟨_, rfl⟩
          have he' : effect o.op = false := by rw [hx]; rfl
          have hjj : if effect o.op then j = i + 1 else j = j := by rw [if_neg (by rw [he']; simp)]
          by_cases hw : Region.wanted ops[i] (yielded ops a.tmps) = true
          · rw [if_pos hw]
            have hstep : stepOp callF ops[i].dst o.op ((stAt callF L s1 j).sub T U) = some (.val (ev ((stAt callF L s1 j).sub T U) x) ((stAt callF L s1 j).sub T U)) := by rw [hx]; rfl
            refine one_to c1 hC hstep h hM hMd (fun s3 a1 u1 w1 g1 e k1 r1 m1 d1 => ?_) (fun p s3 u1 w1 g1 v e => by cases e)
            simp only [ORes.next, Option.some.injEq] at e
            rw [← c3, sub_put] at e
            exact cont j _ U g1 a1 u1 w1 s3 (hA.step hG ho hiX hpre (.inr ⟨hgt, he'⟩) hA.jN hjj (fun h => by omega) hUsame (fun q oq z t hq _ => hA.zero q oq z t hq)) e.symm k1 r1 m1 d1
          · rw [if_neg hw]
            obtain ⟨_, _, q3, q4⟩ := St.put_same ((stAt callF L s1 j).sub T U) o.dst (.tup [])
            exact cont j (.tup []) U g _ u w (((stAt callF L s1 j).sub T U).put o.dst (.tup [])) (hA.step hG ho hiX hpre (.inr ⟨hgt, he'⟩) hA.jN hjj (fun h => by omega) hUsame (fun q oq z t hq _ => hA.zero q oq z t hq)) (sub_put _ _ _ _ _) (.refl B d g w) (by rw [← c3]; exact undef_put (o := ops[i]) h) (by rw [q3, q4]; exact hM) (by rw [q3]; exact hMd)

end

/-- what the making of the local variables leaves in their slots -/
theorem preAlloc_new {callF : CallF} : ∀ (l : List SOper) (s s1 : St), preAlloc callF l s = some s1 → (l.filterMap (·.dst)).Nodup → ∀ (q : Nat) (o : SOper) (z : List AV) (t : Nat), l[q]? = some o → o.op = .allocL z → o.dst = some t →
    s1.loc[t]? = some (some z) ∧ (t < s1.tmps.length → s1.tmps[t]? = some (.lref t 0))
  | [], s, s1, h, _, q, o, z, t, hq, _, _ => by simp at hq
  | x :: l, s, s1, h, hn, q, o, z, t, hq, hz, hd => by
    have hn' : (l.filterMap (·.dst)).Nodup := by
      rw [List.filterMap_cons] at hn
      split at hn
      · exact hn
      · exact (List.nodup_cons.1 hn).2
    simp only [preAlloc] at h
    cases q with
    | zero =>
      simp at hq
      subst hq
      have ha : isAllocL x.op = true := by rw [hz]; rfl
      have ht : t ∉ allocs l := by
        rw [List.filterMap_cons] at hn
        simp only [hd] at hn
        intro hm
        unfold allocs at hm
        rw [List.mem_filterMap] at hm
        obtain ⟨y, hy, hy2⟩ := hm
        exact (List.nodup_cons.1 hn).1 (List.mem_filterMap.2 ⟨y, (List.mem_filter.1 hy).1, hy2⟩)
      split at h
      · split at h
        · rename_i v s2 hst
          rw [hz, hd] at hst
          simp only [stepOp] at hst
          split at hst
          · rename_i hl
            cases hst
            obtain ⟨_, _, _, _, _, _, a7, _, a9, _⟩ := preAlloc_ok l _ s1 h
            obtain ⟨b1, b2⟩ := a9 t ht
            refine ⟨?_, fun hlt => ?_⟩
            · rw [b2, hd]
              simp only [St.put]
              rw [List.getElem?_set, if_pos rfl, if_pos (List.getElem?_eq_some_iff.1 hl).1]
            · rw [b1, hd]
              rw [a7, hd] at hlt
              simp only [St.put, List.length_set] at hlt
              simp only [St.put]
              rw [List.getElem?_set, if_pos rfl, if_pos hlt]
          · cases hst
        · cases h
      · cases h
      · rename_i hh; rw [ha] at hh; cases hh
    | succ q =>
      simp at hq
      split at h
      · split at h
        · exact preAlloc_new l _ s1 h hn' q o z t hq hz hd
        · cases h
      · cases h
      · exact preAlloc_new l _ s1 h hn' q o z t hq hz hd

theorem filterMap_dst {l l' : List SOper} (h : l.map (·.dst) = l'.map (·.dst)) : l.filterMap (·.dst) = l'.filterMap (·.dst) := by
  have e : ∀ l : List SOper, l.filterMap (·.dst) = (l.map (·.dst)).filterMap id := fun l => by rw [List.filterMap_map]; rfl
  rw [e, e, h]

theorem draw_ok {P : Program} {B : Nat} (hm : P.follows .mixedOrders = true) : DrawOk P B := by
  intro callF d hC H ops l s ex s' hc hok hE hr g a u w dfd h hm' hdf t
  have hG := drawOk_good hok
  have hnd : (l.filterMap (·.dst)).Nodup := by
    unfold drawOk at hok
    simp only [Bool.and_eq_true] at hok
    exact nodup_nodup hok.1.1.1.2
  have hndL : ((annot (Region.before ops) (effs l) l).filterMap (·.dst)).Nodup := by
    have : (annot (Region.before ops) (effs l) l).filterMap (·.dst) = l.filterMap (·.dst) := by
      apply filterMap_dst
      apply List.ext_getElem?
      intro i
      simp only [List.getElem?_map, annot, List.getElem?_zipIdx]
      cases l[i]? with
      | none => rfl
      | some o =>
        simp only [Option.map_some]
        split <;> rfl
    rw [this]; exact hnd
  simp only [runReg] at hr
  split at hr
  · rename_i s1 hp
    obtain ⟨N, hN, hT⟩ := runD_trace (callF := callF) (L := annot (Region.before ops) (effs l) l) (s1 := s1) _ 0 [s1] [] (by simp) (Nat.zero_le _) hr (by simp [kOf, effs]) (fun j h0 hj e => by
      have : j = 0 := by omega
      subst this
      simp [kOf, effs] at e
      subst e; rfl) (fun _ h => by omega) (fun _ h => by omega)
    obtain ⟨a1, a2, a3, a4, a5, a6, a7, a8, a9, a10⟩ := preAlloc_ok _ _ _ hp
    have hnew := preAlloc_new _ _ _ hp hndL
    have hmem : ∀ t, t ∈ allocs (annot (Region.before ops) (effs l) l) ↔ ∃ (q : Nat) (o : SOper), (annot (Region.before ops) (effs l) l)[q]? = some o ∧ isAllocL o.op = true ∧ o.dst = some t := by
      intro t
      unfold allocs
      simp only [List.mem_filterMap, List.mem_filter]
      constructor
      · rintro ⟨o, ⟨h1, h2⟩, h3⟩
        obtain ⟨q, hq⟩ := List.mem_iff_getElem?.1 h1
        exact ⟨q, o, hq, h2, h3⟩
      · rintro ⟨q, o, h1, h2, h3⟩
        exact ⟨o, ⟨List.mem_of_getElem? h1, h2⟩, h3⟩
    have hs0 : s1.sub s.tmps (allocs (annot (Region.before ops) (effs l) l)) = s := by
      have : hide (allocs (annot (Region.before ops) (effs l) l)) s1.loc = s.loc := by
        apply List.ext_getElem?
        intro t
        by_cases ht : t ∈ allocs (annot (Region.before ops) (effs l) l)
        · rw [hide_get, a10 t ht]
          have hlt : t < s1.loc.length := by rw [a8]; exact (List.getElem?_eq_some_iff.1 (a10 t ht)).1
          rw [List.getElem?_eq_getElem hlt, Option.map_some, if_pos (by simpa using ht)]
        · rw [hide_out ht, (a9 t ht).2]
      cases s; cases s1
      simp only [St.sub, St.mk.injEq] at this ⊢
      simp_all
    refine draw_ord (s := s) (s1 := s1) hC hc rfl hG hN hT (fun t ht => (a9 t fun hm => ?_).1) (fun q o z t h1 h2 h3 => (hnew q o z t h1 h2 h3).2) _ [] 0 s.tmps (allocs (annot (Region.before ops) (effs l) l)) g a u w (schedule_lin hm hE t) ?_ (by rw [show stAt callF (annot (Region.before ops) (effs l) l) s1 0 = s1 from rfl, hs0]; exact h) (by rw [show stAt callF (annot (Region.before ops) (effs l) l) s1 0 = s1 from rfl, a5, a6]; exact hm') (by rw [show stAt callF (annot (Region.before ops) (effs l) l) s1 0 = s1 from rfl, a5]; exact hdf)
    · obtain ⟨q, o, h1, h2, h3⟩ := (hmem t).1 hm
      exact ht q o h1 h2 h3
    · refine ⟨Nat.zero_le _, fun e o _ _ => by simp, by simp, by simp, a7.symm, by simp, fun t _ => rfl, fun t => ?_, fun q o z t _ h1 h2 h3 => (hnew q o z t h1 h2 h3).1⟩
      rw [hmem]
      simp
  · cases hr

end Go.PM
