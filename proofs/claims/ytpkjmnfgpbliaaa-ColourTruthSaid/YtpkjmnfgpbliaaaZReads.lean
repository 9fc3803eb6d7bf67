/-
  What came in, as the statements read it, reads as data of the plain machine. For any program. No program here.
-/
import Derived.Test.YtpkjmnfgpbliaaaZAmUse
import GoSem.ClaimJoined
import Derived.ProofKit
namespace Go.Proofs.Ytpkjmnfgpbliaaa
open Go.RowKit
set_option linter.unusedSimpArgs false
set_option linter.unusedVariables false

/-- The cells that were there. -/
def oldM (w : World) : Nat → Nat → Prop := fun b _ => b < w.heap.size
/-- Values of a type, read by a statement, are data of one kind. -/
structure Reads {α : Type} (P : Program) (t : TypeId) (r : Row α) (G : α → Prop) : Prop where
  size : P.cellsOf t = r.k
  read : ∀ {H : Type} (enc : TypeId × Value → H) (w : World) (fuel : Nat) (cs : List Value) (d : DataW H) (ps : List MemPlace), DataW.trod enc P w 0 (fun _ => true) true fuel t cs = some (d, ps) → (∀ n ∈ d.weights P t, n ≤ reachBytes) →
    ∃ x, G x ∧ cs.length = r.k ∧ RelL (oldM w) w (r.enc x) cs ∧ ∀ v ∈ cs, v.oneCell' = true
section
variable {P : Program} {t : TypeId}
theorem reads_k {k : IntKind} (hu : P.underlying t = some (.int k)) (hc : P.cellsOf t = 1) : Reads P t (rK k) (fun n => (Lit.int k n).wf = true) := by
  refine ⟨hc, fun enc w fuel cs d ps h hw => ?_⟩
  cases fuel with
  | zero => simp [DataW.trod] at h
  | succ fuel =>
    simp only [DataW.trod, hu] at h
    split at h <;> simp_all
    rename_i k' n h1
    obtain ⟨⟨rfl, hwf⟩, _⟩ := h
    exact ⟨n, hwf, rfl, ⟨_, _, rfl, by simp [Rel], rfl⟩, rfl⟩
theorem reads_i (hu : P.underlying t = some (.int .i64)) (hc : P.cellsOf t = 1) : Reads P t rInt (fun n => (Lit.int .i64 n).wf = true) := by
  have h := reads_k hu hc
  refine ⟨hc, fun enc w fuel cs d ps h1 hw => ?_⟩
  obtain ⟨x, h1, h2, h3, h4⟩ := h.read enc w fuel cs d ps h1 hw
  exact ⟨x, h1, h2, h3, h4⟩
theorem reads_s (hu : P.underlying t = some .string) (hc : P.cellsOf t = 1) : Reads P t rStr (fun s => s.size ≤ reachBytes) := by
  refine ⟨hc, fun enc w fuel cs d ps h hw => ?_⟩
  cases fuel with
  | zero => simp [DataW.trod] at h
  | succ fuel =>
    simp only [DataW.trod, hu] at h
    split at h <;> simp_all
    rename_i cs0 s
    obtain ⟨hwf, rfl, _⟩ := h
    refine ⟨s, ?_, rfl, ⟨_, _, rfl, by simp [Rel], rfl⟩, rfl⟩
    have := hw s.data.toList.length (by simp [DataW.weights])
    simpa using this
theorem mapM_get {α β : Type} (f : α → Option β) : ∀ (l : List α) (ys : List β), l.mapM f = some ys → ys.length = l.length ∧ ∀ (i : Nat) (x : α), l[i]? = some x → ∃ y, ys[i]? = some y ∧ f x = some y
  | [], ys, h => by simp at h; subst h; simp
  | a :: t, ys, h => by
    rw [List.mapM_cons] at h
    simp only [Option.pure_def, Option.bind_eq_bind, Option.bind_eq_some_iff, Option.some.injEq] at h
    obtain ⟨y, hy, zs, hz, rfl⟩ := h
    obtain ⟨h1, h2⟩ := mapM_get f t zs hz
    refine ⟨by simp [h1], fun i x hx => ?_⟩
    cases i with
    | zero => simp at hx; subst hx; exact ⟨y, rfl, hy⟩
    | succ i => exact h2 i x (by simpa using hx)
theorem cells_get {w : World} {a : Addr} {n : Nat} {cs : List Value} (h : w.cells? 0 a n = some cs) : cs.length = n ∧ ∀ i v, cs[i]? = some v → w.cell? (a.add i) = some v := by
  unfold World.cells? at h
  rw [if_pos (Nat.zero_le _)] at h
  obtain ⟨h1, h2⟩ := mapM_get _ _ _ h
  rw [List.length_range] at h1
  refine ⟨h1, fun i v hv => ?_⟩
  have hi : i < n := by have := (List.getElem?_eq_some_iff.1 hv).1; omega
  obtain ⟨y, hy, he⟩ := h2 i i (by simp [hi])
  rw [hy] at hv; cases hv; exact he
theorem weights_all {H : Type} (e : TypeId) : ∀ (l : List (DataW H)) (d : DataW H), d ∈ l → ∀ n ∈ d.weights P e, n ∈ DataW.weightsAll P e l
  | a :: l, d, hd, n, hn => by
    simp only [DataW.weightsAll, List.mem_append]
    rcases List.mem_cons.1 hd with rfl | hd
    · exact .inl hn
    · exact .inr (weights_all e l d hd n hn)
theorem relCells_of {w : World} {b : Nat} : ∀ (ds : List D) (cs : List Value) (o : Nat), RelL (oldM w) w ds cs → (∀ v ∈ cs, v.oneCell' = true) → (∀ i v, cs[i]? = some v → w.cell? ⟨b, o + i, none⟩ = some v) → (0 < ds.length → b < w.heap.size) → RelCells (oldM w) w ds b o
  | [], cs, o, _, _, _, _ => trivial
  | d :: ds, cs, o, hr, h1, hc, hb => by
    simp only [RelL] at hr
    obtain ⟨v, t, rfl, h2, h3⟩ := hr
    refine ⟨⟨v, hb (by simp), by simpa using hc 0 v rfl, h1 v (by simp), h2⟩, relCells_of ds t (o + 1) h3 (fun v hv => h1 v (by simp [hv])) (fun i v hv => ?_) (fun _ => hb (by simp))⟩
    have := hc (i + 1) v (by simpa using hv)
    rw [show o + 1 + i = o + (i + 1) by omega]; exact this
/-- A cell that holds a slice. -/
def slRow {α : Type} (r : Row α) : Row (List α) := ⟨1, fun l => [D.sl r.k (l.map r.enc)], fun d => match d with | [x] => (cList r).dec x | _ => none, fun x => by simp only [cList_dec r x r.k rfl], fun d x h => by
  split at h
  · rename_i y; exact ⟨_, _, rfl, (cList r).ed _ _ h, rfl⟩
  · cases h⟩
theorem Reads.mono {α : Type} {r : Row α} {G G' : α → Prop} (h : Reads P t r G) (hg : ∀ x, G x → G' x) : Reads P t r G' :=
  ⟨h.size, fun enc w fuel cs d ps h1 h2 => let ⟨x, g1, g2, g3, g4⟩ := h.read enc w fuel cs d ps h1 h2; ⟨x, hg x g1, g2, g3, g4⟩⟩
/-- A slice of such values. -/
theorem reads_sl {e : TypeId} {α : Type} {r : Row α} {G : α → Prop} (hu : P.underlying t = some (.slice e)) (hc : P.cellsOf t = 1) (he : Reads P e r G) (hk : 0 < r.k) (hb : 8 ≤ P.bytesOf e) :
    Reads P t (slRow r) (fun l => (∀ x ∈ l, G x) ∧ l.length ≤ 17592186044416) := by
  refine ⟨hc, fun enc w fuel cs d ps h hw => ?_⟩
  cases fuel with
  | zero => simp [DataW.trod] at h
  | succ fuel =>
    simp only [DataW.trod, hu] at h
    split at h <;> try (simp_all; done)
    · simp only [Option.some.injEq, Prod.mk.injEq] at h
      obtain ⟨rfl, _⟩ := h
      refine ⟨[], by simp, rfl, ⟨_, _, rfl, ?_, rfl⟩, by simp [Value.oneCell']⟩
      simp [Rel]
    · rename_i e' a len cap heq
      simp only [Option.some.injEq, TypeDesc.slice.injEq] at heq
      subst heq
      split at h
      · rename_i hcond
        obtain ⟨_, hlc, hcm⟩ := hcond
        simp only [if_true, Option.bind_eq_some_iff, Option.map_eq_some_iff, Prod.mk.injEq] at h
        obtain ⟨elems, hel, rest, hre, rfl, _⟩ := h
        obtain ⟨l1, l2⟩ := mapM_get _ _ _ hel
        rw [List.length_range] at l1
        have hwt : ∀ n ∈ (DataW.slice (elems.map (·.1)) (rest.map (·.1))).weights P t, n ≤ reachBytes := hw
        simp only [DataW.weights, hu, List.mem_cons, List.mem_append] at hwt
        have hlen : (elems.length + rest.length) * P.bytesOf e ≤ reachBytes := by simpa using hwt _ (.inl rfl)
        have hl44 : len ≤ 17592186044416 := by
          have : (elems.length + rest.length) * 8 ≤ reachBytes := Nat.le_trans (Nat.mul_le_mul_left _ hb) hlen
          unfold reachBytes at this; omega
        have hat : ∀ i, i < len → ∃ x cs, G x ∧ cs.length = r.k ∧ RelL (oldM w) w (r.enc x) cs ∧ (∀ v ∈ cs, v.oneCell' = true) ∧ ∀ j v, cs[j]? = some v → w.cell? ((a.add (i * r.k)).add j) = some v := by
          intro i hi
          obtain ⟨y, hy, hf⟩ := l2 i i (by simp [hi])
          simp only [Option.bind_eq_some_iff] at hf
          obtain ⟨cs, hcs, ht⟩ := hf
          rw [he.size] at hcs
          obtain ⟨c1, c2⟩ := cells_get hcs
          have hmem : y.1 ∈ elems.map (·.1) := List.mem_map.2 ⟨y, List.mem_of_getElem? hy, rfl⟩
          obtain ⟨x, g1, g2, g3, g4⟩ := he.read enc w fuel cs y.1 y.2 ht (fun n hn => hwt n (.inr (.inl (weights_all e _ _ hmem n hn))))
          exact ⟨x, cs, g1, g2, g3, g4, c2⟩
        obtain ⟨l, hl, hrel⟩ : ∃ l : List α, l.length = len ∧ ∀ i x, l[i]? = some x → ∃ cs, G x ∧ cs.length = r.k ∧ RelL (oldM w) w (r.enc x) cs ∧ (∀ v ∈ cs, v.oneCell' = true) ∧ ∀ j v, cs[j]? = some v → w.cell? ((a.add (i * r.k)).add j) = some v := by
          clear hcm hlc hlen hwt hel hre l1 l2 hl44 hw
          induction len with
          | zero => exact ⟨[], rfl, fun i x h => by simp at h⟩
          | succ n ih =>
            obtain ⟨l, h1, h2⟩ := ih (fun i hi => hat i (by omega))
            obtain ⟨x, cs, hx⟩ := hat n (by omega)
            refine ⟨l ++ [x], by simp [h1], fun i y hy => ?_⟩
            rw [List.getElem?_append] at hy
            split at hy
            · exact h2 i y hy
            · rename_i hlt
              have : i - l.length = 0 := by have := (List.getElem?_eq_some_iff.1 hy).1; simp at this; omega
              rw [this] at hy
              simp at hy; subst hy
              have : i = n := by omega
              subst this
              exact ⟨cs, hx⟩
        refine ⟨l, ⟨fun x hx => ?_, by omega⟩, rfl, ⟨_, _, rfl, ?_, rfl⟩, by simp [Value.oneCell']⟩
        · obtain ⟨i, hi, rfl⟩ := List.getElem_of_mem hx
          obtain ⟨cs, h1, _⟩ := hrel i _ (List.getElem?_eq_getElem hi)
          exact h1
        · simp only [Rel, List.length_map, hl]
          refine ⟨hl44, some a, cap, rfl, hlc, ?_⟩
          by_cases h0 : len = 0
          · left; simp; exact List.length_eq_zero_iff.1 (by omega)
          · right
            obtain ⟨b, off, spot⟩ := a
            obtain ⟨x, cs, _, g2, _, _, g5⟩ := hat 0 (by omega)
            have hc0 := g5 0 cs[0] (List.getElem?_eq_getElem (by omega))
            have hspot : spot = none := by simpa [Addr.add] using World.cell?_spot hc0
            subst hspot
            refine ⟨b, off, rfl, RelRows.of fun i rr hr => ?_⟩
            rw [List.getElem?_map] at hr
            obtain ⟨x, hx, rfl⟩ := Option.map_eq_some_iff.1 hr
            obtain ⟨cs, q1, q2, q3, q4, q5⟩ := hrel i x hx
            refine ⟨by rw [← q3.length]; exact q2, relCells_of _ cs _ q3 q4 (fun j v hv => ?_) (fun h => ?_)⟩
            · have := q5 j v hv
              rw [Addr.add_lit, Addr.add_lit] at this; exact this
            · have := q5 0 cs[0] (List.getElem?_eq_getElem (by omega))
              rw [Addr.add_lit, Addr.add_lit] at this
              exact block_lt_of_cell this
      · cases h
theorem RelL.app {m : Nat → Nat → Prop} {w : World} : ∀ {as bs : List D} {vs us : List Value}, RelL m w as vs → RelL m w bs us → RelL m w (as ++ bs) (vs ++ us)
  | [], bs, vs, us, h, k => by simp only [RelL] at h; subst h; exact k
  | a :: as, bs, vs, us, h, k => by
    simp only [RelL] at h
    obtain ⟨v, t, rfl, h1, h2⟩ := h
    exact ⟨v, _, rfl, h1, RelL.app h2 k⟩
theorem split2 {α : Type} (l : List α) (a b : Nat) (h : l.length = a + b) : l = l.take a ++ (l.drop a).take b := by
  rw [List.take_of_length_le (l := l.drop a) (by simp; omega), List.take_append_drop]
theorem each_cons {H : Type} {n : Nat} {T : TypeId} {Ts : List TypeId} {d : DataW H} {ds : List (DataW H)} : n ∈ DataW.weightsEach P (T :: Ts) (d :: ds) ↔ n ∈ d.weights P T ∨ n ∈ DataW.weightsEach P Ts ds := by
  simp [DataW.weightsEach]
/-- The fields of a struct, one behind the other. -/
structure Fields {α : Type} (P : Program) (fs : List Field) (off : Nat) (enc : α → List D) (k : Nat) (G : α → Prop) : Prop where
  read : ∀ {H : Type} (e : TypeId × Value → H) (w : World) (fuel : Nat) (cs : List Value) (xs : List (DataW H × List MemPlace)), cs.length = off + k → fs.mapM (fun f => DataW.trod e P w 0 (fun _ => true) true fuel f.type ((cs.drop f.offset).take (P.cellsOf f.type))) = some xs → (∀ n ∈ DataW.weightsEach P (fs.map (·.type)) (xs.map (·.1)), n ≤ reachBytes) →
    ∃ x, G x ∧ RelL (oldM w) w (enc x) (cs.drop off) ∧ ∀ v ∈ cs.drop off, v.oneCell' = true
theorem fields_nil (off : Nat) : Fields P [] off (fun _ : Unit => []) 0 (fun _ => True) :=
  ⟨fun e w fuel cs xs hl h hw => ⟨(), trivial, by rw [List.drop_of_length_le (by omega)]; rfl, by rw [List.drop_of_length_le (by omega)]; simp⟩⟩
theorem fields_cons {α β : Type} {f : Field} {fs : List Field} {off k : Nat} {r : Row α} {G : α → Prop} {enc : β → List D} {G' : β → Prop} (h0 : Reads P f.type r G) (ho : f.offset = off) (h1 : Fields P fs (off + r.k) enc k G') :
    Fields P (f :: fs) off (fun x : α × β => r.enc x.1 ++ enc x.2) (r.k + k) (fun x => G x.1 ∧ G' x.2) := by
  refine ⟨fun e w fuel cs xs hl h hw => ?_⟩
  rw [List.mapM_cons] at h
  simp only [Option.pure_def, Option.bind_eq_bind, Option.bind_eq_some_iff, Option.some.injEq] at h
  obtain ⟨y, hy, zs, hz, rfl⟩ := h
  simp only [List.map_cons] at hw
  rw [ho, h0.size] at hy
  obtain ⟨x, g1, g2, g3, g4⟩ := h0.read e w fuel _ y.1 y.2 hy (fun n hn => hw n (each_cons.2 (.inl hn)))
  obtain ⟨x', q1, q3, q4⟩ := h1.read e w fuel cs zs (by omega) hz (fun n hn => hw n (each_cons.2 (.inr hn)))
  have hs : cs.drop off = (cs.drop off).take r.k ++ cs.drop (off + r.k) := by
    rw [← List.drop_drop, List.take_append_drop]
  refine ⟨(x, x'), ⟨g1, q1⟩, ?_, ?_⟩
  · rw [hs]; exact g3.app q3
  · rw [hs]; intro v hv
    rcases List.mem_append.1 hv with hv | hv
    · exact g4 v hv
    · exact q4 v hv
/-- A struct. -/
theorem reads_st {α β : Type} {fs : Array Field} {enc : α → List D} {k : Nat} {G : α → Prop} (r : Row β) (mk : α → β) (hu : P.underlying t = some (.struct fs)) (hf : Fields P fs.toList 0 enc k G) (hc : P.cellsOf t = k) (hr : r.k = k) (he : ∀ x, r.enc (mk x) = enc x) :
    Reads P t r (fun y => ∃ x, y = mk x ∧ G x) := by
  refine ⟨by rw [hc, hr], fun e w fuel cs d ps h hw => ?_⟩
  cases fuel with
  | zero => simp [DataW.trod] at h
  | succ fuel =>
    have hcl : cs.length = P.cellsOf t ∧ ∃ xs, fs.toList.mapM (fun f => DataW.trod e P w 0 (fun _ => true) true fuel f.type ((cs.drop f.offset).take (P.cellsOf f.type))) = some xs ∧ d = .agg (xs.map (·.1)) := by
      simp only [DataW.trod, hu] at h
      split at h
      · rename_i hl
        simp only [Option.map_eq_some_iff, Prod.mk.injEq] at h
        obtain ⟨xs, hx, rfl, _⟩ := h
        exact ⟨hl, xs, hx, rfl⟩
      · cases h
    obtain ⟨hl, xs, hx, rfl⟩ := hcl
    simp only [DataW.weights, hu] at hw
    obtain ⟨x, g1, g2, g3⟩ := hf.read e w fuel cs xs (by omega) hx hw
    exact ⟨mk x, ⟨x, rfl, g1⟩, by omega, by rw [he]; simpa using g2, by simpa using g3⟩
/-- The elements of an array, one behind the other. -/
theorem reads_arr {β : Type} {e : TypeId} {α : Type} {r : Row α} {G : α → Prop} {N : Nat} (r' : Row β) (mk : List α → β) (hu : P.underlying t = some (.array N e)) (h0 : Reads P e r G) (hc : P.cellsOf t = N * r.k) (hr : r'.k = N * r.k) (he : ∀ l : List α, l.length = N → r'.enc (mk l) = l.flatMap r.enc) :
    Reads P t r' (fun y => ∃ l, y = mk l ∧ l.length = N ∧ ∀ x ∈ l, G x) := by
  refine ⟨by rw [hc, hr], fun en w fuel cs d ps h hw => ?_⟩
  cases fuel with
  | zero => simp [DataW.trod] at h
  | succ fuel =>
    have hcl : cs.length = P.cellsOf t ∧ ∃ xs, (List.range N).mapM (fun i => DataW.trod en P w 0 (fun _ => true) true fuel e ((cs.drop (i * P.cellsOf e)).take (P.cellsOf e))) = some xs ∧ d = .agg (xs.map (·.1)) := by
      simp only [DataW.trod, hu] at h
      split at h
      · rename_i hl
        simp only [Option.map_eq_some_iff, Prod.mk.injEq] at h
        obtain ⟨xs, hx, rfl, _⟩ := h
        exact ⟨hl, xs, hx, rfl⟩
      · cases h
    obtain ⟨hl, xs, hx, rfl⟩ := hcl
    simp only [DataW.weights, hu] at hw
    obtain ⟨l1, l2⟩ := mapM_get _ _ _ hx
    rw [List.length_range] at l1
    rw [hc] at hl
    have key : ∀ n, n ≤ N → ∃ l : List α, l.length = n ∧ (∀ x ∈ l, G x) ∧ RelL (oldM w) w (l.flatMap r.enc) (cs.take (n * r.k)) ∧ ∀ v ∈ cs.take (n * r.k), v.oneCell' = true := by
      intro n
      induction n with
      | zero => intro _; exact ⟨[], rfl, by simp, by simp [RelL], by simp⟩
      | succ n ih =>
        intro hn
        obtain ⟨l, h1, h2, h3, h4⟩ := ih (by omega)
        obtain ⟨y, hy, ht⟩ := l2 n n (List.getElem?_range (by omega))
        rw [h0.size] at ht
        have hmem : y.1 ∈ xs.map (·.1) := List.mem_map.2 ⟨y, List.mem_of_getElem? hy, rfl⟩
        obtain ⟨x, g1, g2, g3, g4⟩ := h0.read en w fuel _ y.1 y.2 ht (fun k hk => hw k (weights_all e _ _ hmem k hk))
        have hsp : cs.take ((n + 1) * r.k) = cs.take (n * r.k) ++ (cs.drop (n * r.k)).take r.k := by
          rw [Nat.succ_mul, List.take_add]
        refine ⟨l ++ [x], by simp [h1], ?_, ?_, ?_⟩
        · intro z hz
          rcases List.mem_append.1 hz with hz | hz
          · exact h2 z hz
          · simp at hz; subst hz; exact g1
        · rw [hsp, List.flatMap_append]; simpa using h3.app g3
        · rw [hsp]; intro v hv
          rcases List.mem_append.1 hv with hv | hv
          · exact h4 v hv
          · exact g4 v hv
    obtain ⟨l, h1, h2, h3, h4⟩ := key N (Nat.le_refl _)
    rw [List.take_of_length_le (by omega)] at h3 h4
    exact ⟨mk l, ⟨l, rfl, h1, h2⟩, by omega, by rw [he l h1]; exact h3, h4⟩
/-- An argument that is a struct or an array of more than one cell, or whose value is known. -/
theorem arg_agg {α : Type} {r : Row α} {G : α → Prop} (h : Reads P t r G) (hk : r.k ≠ 1) {H : Type} {enc : TypeId × Value → H} {w : World} {v : Value} {d : DataW H} {p : List MemPlace} (ht : DataW.Trod enc P w 0 (fun _ => true) true t v d p) (hw : ∀ n ∈ d.weights P t, n ≤ reachBytes) :
    ∃ x, G x ∧ Rel (oldM w) w ((cAgg r).enc x) v := by
  obtain ⟨fuel, hf⟩ := ht
  obtain ⟨x, h1, h2, h3, h4⟩ := h.read enc w fuel _ d p hf hw
  refine ⟨x, h1, ?_⟩
  rw [cAgg_enc]
  simp only [Rel]
  refine ⟨v.cells.toList, ?_, h4, h3⟩
  cases v <;> simp [Value.cells] at h2 ⊢ <;> omega
theorem arg_one {α : Type} {r : Row α} {G : α → Prop} (h : Reads P t r G) (E : α → D) (he : ∀ x, r.enc x = [E x]) {H : Type} {enc : TypeId × Value → H} {w : World} {v : Value} {d : DataW H} {p : List MemPlace} (hv : v.cells = #[v]) (ht : DataW.Trod enc P w 0 (fun _ => true) true t v d p) (hw : ∀ n ∈ d.weights P t, n ≤ reachBytes) :
    ∃ x, G x ∧ Rel (oldM w) w (E x) v := by
  obtain ⟨fuel, hf⟩ := ht
  rw [hv] at hf
  obtain ⟨x, h1, h2, h3, h4⟩ := h.read enc w fuel _ d p hf hw
  refine ⟨x, h1, ?_⟩
  rw [he] at h3
  simp only [RelL] at h3
  obtain ⟨v', t', e, h5, _⟩ := h3
  cases e; exact h5
/-- A law that is told of by a plain function that says true. -/
theorem law_calls {f : Nat} {ds : List D} (h : PureC P f ds (DB true)) {w : World} {vs : List Value} (hr : RelL (oldM w) w ds vs) : Calls P f vs.toArray w fun e w' => e = .returned (.bool true) ∧ Below w.heap.size w w' :=
  (h (oldM w) w vs (fun _ _ h => h) hr).mono fun e w' ⟨v, m', h1, h2, _, h3⟩ => by
    simp only [Rel] at h3
    subst h3
    exact ⟨h1, h2⟩
end
end Go.Proofs.Ytpkjmnfgpbliaaa
