/-
  A region that draws its order, inside a round of a range over a function: operations that only read, and one last operation that waits for all the others: every order comes to the same end. No program here.
-/
import Derived.Test.YtpkjmnfgpbliaaaZLost
namespace Go.Proofs.Ytpkjmnfgpbliaaa
open Go.RowKit Go.Shelf
set_option linter.unusedSimpArgs false
set_option linter.unusedVariables false

section
variable {F : Fence} {n : Nat} {P : Program} {ops : Array Oper} {Q : Exit → Act → World → Prop}

/-- What an operation waits for is done. -/
def DepsDone (o : Oper) (listed : Array Bool) : Prop := ∀ e ∈ o.after, Region.binds .any e = true → listed.getD e.on false = true
theorem DepsDone.get {o : Oper} {listed : Array Bool} (h : DepsDone o listed) (k : Nat) (he : o.after.any (fun e => e.on == k && Region.binds .any e) = true) : listed.getD k true = true := by
  obtain ⟨i, hi, h1⟩ := Array.any_eq_true.1 he
  simp only [Bool.and_eq_true, beq_iff_eq] at h1
  have := h _ (Array.getElem_mem hi) h1.2
  rw [h1.1] at this
  by_cases hk : k < listed.size
  · simpa [Array.getD_eq_getD_getElem?, hk] using this
  · simp [Array.getD_eq_getD_getElem?, hk] at this
def Down (ops : Array Oper) (listed : Array Bool) : Prop := ∀ i o, ops[i]? = some o → listed.getD i true = true → DepsDone o listed

theorem getD_set (l : Array Bool) (i j : Nat) (d : Bool) (hi : i < l.size) : (l.setIfInBounds i true).getD j d = if j = i then true else l.getD j d := by
  simp only [Array.getD_eq_getD_getElem?, Array.getElem?_setIfInBounds]
  by_cases h : i = j
  · subst h; simp [hi]
  · simp [h, show ¬ j = i from fun e => h e.symm]

theorem mem_ready {listed : Array Bool} {i : Nat} : i ∈ Region.ready .any ops listed ↔ ∃ o, ops[i]? = some o ∧ listed.getD i true = false ∧ DepsDone o listed := by
  unfold Region.ready DepsDone
  simp only [List.mem_filter, List.mem_range, Bool.and_eq_true, Bool.not_eq_true']
  constructor
  · rintro ⟨h1, h2, h3⟩
    refine ⟨ops[i], by simp [h1], h2, ?_⟩
    simp only [Array.getElem?_eq_getElem h1, Option.map_some, Option.getD_some, Array.all_eq_true] at h3
    intro e he hb
    obtain ⟨k, hk, rfl⟩ := Array.getElem_of_mem he
    have := h3 k hk
    simpa [hb] using this
  · rintro ⟨o, h1, h2, h3⟩
    obtain ⟨hi, rfl⟩ := Array.getElem?_eq_some_iff.1 h1
    refine ⟨hi, h2, ?_⟩
    simp only [h1, Option.map_some, Option.getD_some, Array.all_eq_true]
    intro k hk
    have := h3 _ (Array.getElem_mem hk)
    by_cases hb : Region.binds .any (ops[i].after[k]) = true
    · simp [this hb]
    · simp [hb]

theorem readR (hdep : ∀ (i : Nat) (o : Oper), ops[i]? = some o → ∀ e ∈ o.after, e.on < i) (L : Nat) (hL : L < ops.size) (S : Array Bool → Act) (w : World)
    (hop : ∀ (listed : Array Bool) (i : Nat) (o : Oper), listed.size = ops.size → ops[i]? = some o → i ≠ L → listed.getD i true = false → DepsDone o listed → ∀ K : Act → World → Prop, K (S (listed.setIfInBounds i true)) w → wpOpIn F n P ops Q i K (S listed) w)
    (hlast : ∀ (listed : Array Bool) (o : Oper), listed.size = ops.size → Down ops listed → ops[L]? = some o → DepsDone o listed → (∀ j, j < ops.size → j ≠ L → listed.getD j true = true) ∧ ∀ K : Act → World → Prop, (∀ a w', Q .normal a w' → K a w') → wpOpIn F n P ops Q L K (S listed) w) :
    ∀ (fuel : Nat) (listed : Array Bool), listed.size = ops.size → Down ops listed → listed.getD L true = false → listed.toList.count false ≤ fuel → wpAnyIn F n P .any ops Q fuel listed (S listed) w := by
  have hdown : ∀ (listed : Array Bool) (i : Nat) (o : Oper), listed.size = ops.size → Down ops listed → ops[i]? = some o → DepsDone o listed → Down ops (listed.setIfInBounds i true) := by
    intro listed i o hs hd hi hdd j o' hj hl e he hb
    have hil : i < listed.size := by rw [hs]; exact (Array.getElem?_eq_some_iff.1 hi).1
    rw [getD_set _ _ _ _ hil] at hl ⊢
    by_cases h1 : e.on = i
    · rw [if_pos h1]
    · rw [if_neg h1]
      by_cases h2 : j = i
      · subst h2
        rw [hi] at hj; cases hj
        exact hdd e he hb
      · rw [if_neg h2] at hl
        exact hd j o' hj hl e he hb
  have hcount : ∀ (listed : Array Bool) (i : Nat), i < listed.size → listed.getD i true = false → (listed.setIfInBounds i true).toList.count false + 1 = listed.toList.count false := by
    intro listed i hi hf
    have hf' : listed.toList[i]'(by simpa using hi) = false := by simpa [Array.getD_eq_getD_getElem?, hi] using hf
    have hp : 0 < listed.toList.count false := List.count_pos_iff.2 (by rw [← hf']; exact List.getElem_mem _)
    rw [Array.toList_setIfInBounds, List.count_set (by simpa using hi)]
    simp [hf']
    simp at hp
    have := Array.count_pos_iff.2 (show false ∈ listed from by simpa using hp)
    omega
  intro fuel
  induction fuel with
  | zero =>
    intro listed hs hd hl hc
    have hp : 0 < listed.toList.count false := List.count_pos_iff.2 (by
      have : listed[L]'(by omega) = false := by simpa [Array.getD_eq_getD_getElem?, show L < listed.size by omega] using hl
      rw [← this]; simp)
    omega
  | succ fuel ih =>
    intro listed hs hd hl hc
    refine ⟨fun hr => ?_, fun i hi => ?_⟩
    · exfalso
      have : ∀ i, i < ops.size → listed.getD i true = true := by
        intro i
        induction i using Nat.strongRecOn with
        | ind i ihi =>
          intro hi
          by_cases hli : listed.getD i true = true
          · exact hli
          · exfalso
            have hm : i ∈ Region.ready .any ops listed := mem_ready.2 ⟨ops[i], by simp [hi], by simpa using hli, fun e he hb => by
              have h1 := hdep i ops[i] (by simp [hi]) e he
              have h2 := ihi e.on h1 (by omega)
              simpa [Array.getD_eq_getD_getElem?, show e.on < listed.size by omega] using h2⟩
            rw [hr] at hm; cases hm
      rw [this L hL] at hl; cases hl
    · obtain ⟨o, ho, hli, hdd⟩ := mem_ready.1 hi
      have his : i < listed.size := by rw [hs]; exact (Array.getElem?_eq_some_iff.1 ho).1
      by_cases hiL : i = L
      · subst hiL
        obtain ⟨h1, h2⟩ := hlast listed o hs hd ho hdd
        refine h2 _ fun a w' hq => wpAnyIn_done ?_ hq fuel
        have : ∀ j, j ∉ Region.ready .any ops (listed.setIfInBounds i true) := by
          intro j hj
          obtain ⟨o', ho', hlj, _⟩ := mem_ready.1 hj
          rw [getD_set _ _ _ _ his] at hlj
          by_cases hji : j = i
          · rw [if_pos hji] at hlj; cases hlj
          · rw [if_neg hji, h1 j (Array.getElem?_eq_some_iff.1 ho').1 hji] at hlj; cases hlj
        exact List.eq_nil_iff_forall_not_mem.2 this
      · refine hop listed i o hs ho hiL hli hdd _ (ih _ (by simp [hs]) (hdown listed i o hs hd ho hdd) ?_ ?_)
        · rw [getD_set _ _ _ _ his, if_neg (fun e => hiL e.symm)]; exact hl
        · have := hcount listed i his hli; omega

/-- The tmps where the listed operations have yielded. -/
def putAll (t : Array Value) (rs : List (Nat × Nat × Value)) (listed : Array Bool) : Array Value := rs.foldl (fun t r => t.setIfInBounds r.1 (bif listed.getD r.2.1 true then r.2.2 else undef)) t

theorem region_readR {id : Nat} {a : Act} {w : World} {l : List Oper} (rs : List (Nat × Nat × Value)) (L : Nat) (hm : P.follows .mixedOrders = true) (hL : L < l.length)
    (hdep : (List.range l.length).all (fun i => match l[i]? with | none => true | some o => o.after.all fun e => decide (e.on < i)) = true)
    (h0 : putAll a.tmps rs (Array.replicate l.length false) = a.tmps)
    (hop : ∀ (listed : Array Bool) (i : Nat) (o : Oper), listed.size = l.length → l[i]? = some o → i ≠ L → listed.getD i true = false → DepsDone o listed → ∀ K : Act → World → Prop, K { tmps := putAll a.tmps rs (listed.setIfInBounds i true), defers := a.defers } w.drew → wpOpIn F n P l.toArray Q i K { tmps := putAll a.tmps rs listed, defers := a.defers } w.drew)
    (hlast : ∀ (listed : Array Bool) (o : Oper), listed.size = l.length → Down l.toArray listed → l[L]? = some o → DepsDone o listed → (∀ j, j < l.length → j ≠ L → listed.getD j true = true) ∧ ∀ K : Act → World → Prop, (∀ a w', Q .normal a w' → K a w') → wpOpIn F n P l.toArray Q L K { tmps := putAll a.tmps rs listed, defers := a.defers } w.drew) :
    (Code.region id l.toArray true).wpIn F n P Q a w := by
  refine wpIn_region_any hm ?_
  have key := readR (F := F) (n := n) (P := P) (ops := l.toArray) (Q := Q) (by
      intro i o hi e he
      have hi' : l[i]? = some o := by simpa using hi
      have := List.all_eq_true.1 hdep i (List.mem_range.2 (List.getElem?_eq_some_iff.1 hi').1)
      rw [hi'] at this
      obtain ⟨k, hk, rfl⟩ := Array.getElem_of_mem he
      have := Array.all_eq_true.1 this k hk
      simpa using this)
    L (by simpa using hL) (fun listed => { tmps := putAll a.tmps rs listed, defers := a.defers }) w.drew
    (fun listed i o hs hi => hop listed i o (by simpa using hs) (by simpa using hi)) (fun listed o hs hd ho => by simpa using hlast listed o (by simpa using hs) hd (by simpa using ho))
    l.toArray.size (Array.replicate l.toArray.size false) (by simp) (by
      intro i o hi hl
      have : i < l.length := by have := (Array.getElem?_eq_some_iff.1 hi).1; simpa using this
      simp [Array.getD_eq_getD_getElem?, this] at hl) (by simp [Array.getD_eq_getD_getElem?, hL]) (by simp)
  have e : ({ tmps := putAll a.tmps rs (Array.replicate l.toArray.size false), defers := a.defers } : Act) = a := by
    rw [show l.toArray.size = l.length by simp, h0]
  rw [e] at key
  exact key
end
end Go.Proofs.Ytpkjmnfgpbliaaa
