/-
  slices.Clone and slices.Insert at batches: what they return. Conditions: the slice is the caller's own row; what is put in lies in another block.
-/
import Derived.Test.YtpkjmnfgpbliaaaZTwo
import Derived.Lib.Walk
import Derived.Lib.SliceRun
import Derived.Lib.AppendZeros
import Derived.Lib.AppendZerosOnto
import Derived.Lib.Overlaps
import Derived.Laws.Externs
import Derived.Laws.IdiomCopy
namespace Go.Proofs.Ytpkjmnfgpbliaaa
open Go.RowKit Go.Shelf Go.Sort
set_option linter.unusedSimpArgs false
set_option linter.unusedVariables false

section
variable {P : Program}
theorem wp_copy_runB (w : World) {o : Oper} {a : Act} {K : Act → World → Prop} {Q : Exit → Act → World → Prop} (d s : Operand) (t t' : TypeId)
    (ho : o.op = .call { callee := .builtin .copy, args := #[d, s], argTypes := #[t, t'] }) (v u : Value) (hd : a.eval d = v) (hs : a.eval s = u) {v' : Value} {w' : World}
    (hr : (Builtin.copy_ #[t, t'] o.type #[v, u]).run P w = .ok v' w') (h : K (a.put o.dst v') w') : o.wp P a w K Q := by
  unfold Oper.wp execOp
  simp only [ho, resolve, invoke, builtin, Sem.run_bind, Sem.run_pure, Result.andThen_ok, List.map_toArray, List.map_cons, List.map_nil, hd, hs, hr]
  exact h
theorem wpList_copy_runB (w : World) {ops : Array Oper} {rest : List Oper} {o : Oper} {a : Act} {Q : Exit → Act → World → Prop} (hgd : o.guard = none) (d s : Operand) (t t' : TypeId)
    (ho : o.op = .call { callee := .builtin .copy, args := #[d, s], argTypes := #[t, t'] }) (v u : Value) (hd : a.eval d = v) (hs : a.eval s = u) {v' : Value} {w' : World}
    (hr : (Builtin.copy_ #[t, t'] o.type #[v, u]).run P w = .ok v' w') (h : wpList P ops Q rest (a.put o.dst v') w') : wpList P ops Q (o :: rest) a w :=
  wpList_plain hgd fun _ hK => wp_copy_runB w d s t t' ho v u hd hs hr (hK _ _ h)
theorem isSome_setC (b : Nat) (vs : List Value) (o : Nat) (w : World) (h : ∀ j, j < vs.length → (w.cell? ⟨b, o + j, none⟩).isSome = true) (k : Nat) (hk : (w.cell? ⟨b, k, none⟩).isSome = true) : ((w.setCells b o vs).cell? ⟨b, k, none⟩).isSome = true := by
  by_cases hin : o ≤ k ∧ k < o + vs.length
  · have := World.cell?_setCells_in b vs o w h (k - o) (by omega)
    rw [show o + (k - o) = k by omega] at this
    rw [this]; rfl
  · rw [World.cell?_setCells_out b vs o w ⟨b, k, none⟩ (fun _ _ => by show k < o ∨ o + vs.length ≤ k; omega)]
    exact hk
theorem run_copy_rows (w : World) (dT sT ty elem : TypeId) (size : Nat) (b o dLen dCap : Nat) (a : Addr) (sLen sCap : Nat) (cs : List Value)
    (hu : P.underlying dT = some (.slice elem)) (hs : (P.info? elem).map (·.size) = some size) (hn : cs.length = Nat.min sLen dLen * size)
    (hsrc : ∀ j v, cs[j]? = some v → w.cell? (a.add j) = some v) (hc : ∀ j, j < cs.length → (w.cell? ⟨b, o + j, none⟩).isSome = true) (hf : ∀ j, j < cs.length → w.frozen? ⟨b, o + j, none⟩ = false) (h1 : ∀ v ∈ cs, v.oneCell' = true) :
    (Builtin.copy_ #[dT, sT] ty #[.slice (some ⟨b, o, none⟩) dLen dCap, .slice (some a) sLen sCap]).run P w = .ok (goInt (Nat.min sLen dLen)) (w.setCells b o cs) := by
  have hl := run_loadCells_list (P := P) w a cs hsrc
  have hst := run_storeCells_cells (P := P) b o cs 0 w (by simpa using hc) (by simpa using hf) h1
  rw [hn] at hl
  cases hq : P.info? elem with
  | none => simp [hq] at hs
  | some i =>
    have hi : i.size = size := by simpa [hq] using hs
    simp [Builtin.copy_, run_underlying hu, Builtin.lenOf, Builtin.firstCells, sizeOf, typeInfo, hq, hi, hl, hst]
/-- Values put in at a place: first the later ones are moved. -/
theorem ins_cells (w : World) (b k : Nat) (xs vs : List Value) (hk : k ≤ xs.length) (hx : ∀ j v, xs[j]? = some v → w.cell? ⟨b, j, none⟩ = some v) (hs : ∀ j, j < xs.length + vs.length → (w.cell? ⟨b, j, none⟩).isSome = true) :
    ∀ j u, (xs.take k ++ vs ++ xs.drop k)[j]? = some u → ((w.setCells b (k + vs.length) (xs.drop k)).setCells b k vs).cell? ⟨b, j, none⟩ = some u := by
  intro j u hu
  have hdl : (xs.drop k).length = xs.length - k := List.length_drop
  have hs1 : ∀ j, j < xs.length + vs.length → ((w.setCells b (k + vs.length) (xs.drop k)).cell? ⟨b, j, none⟩).isSome = true := fun j hj => isSome_setC _ _ _ _ (fun t ht => hs _ (by omega)) _ (hs j hj)
  rw [List.append_assoc, List.getElem?_append] at hu
  by_cases h1 : j < k
  · rw [if_pos (by simp; omega), List.getElem?_take, if_pos h1] at hu
    rw [World.cell?_setCells_out _ _ _ _ _ (fun _ _ => .inl h1), World.cell?_setCells_out _ _ _ _ _ (fun _ _ => .inl (show j < k + vs.length by omega))]
    exact hx j u hu
  · rw [if_neg (by simp; omega), List.length_take, Nat.min_eq_left hk, List.getElem?_append] at hu
    by_cases h2 : j - k < vs.length
    · rw [if_pos h2, List.getElem?_eq_getElem h2] at hu
      have := World.cell?_setCells_in b vs k (w.setCells b (k + vs.length) (xs.drop k)) (fun t ht => hs1 _ (by omega)) (j - k) h2
      rw [show k + (j - k) = j by omega] at this
      rw [this]; exact hu
    · rw [if_neg h2] at hu
      obtain ⟨hlt, he⟩ := List.getElem?_eq_some_iff.1 hu
      rw [World.cell?_setCells_out _ _ _ _ _ (fun _ _ => .inr (show k + vs.length ≤ j by omega))]
      have := World.cell?_setCells_in b (xs.drop k) (k + vs.length) w (fun t ht => hs _ (by omega)) (j - k - vs.length) hlt
      rw [show k + vs.length + (j - k - vs.length) = j by omega] at this
      rw [this, he]
/-- .. first the new ones are laid. -/
theorem ins_cells' (w : World) (b k : Nat) (xs vs : List Value) (hk : k ≤ xs.length) (hx : ∀ j v, j < k → xs[j]? = some v → w.cell? ⟨b, j, none⟩ = some v) (hs : ∀ j, j < xs.length + vs.length → (w.cell? ⟨b, j, none⟩).isSome = true) :
    ∀ j u, (xs.take k ++ vs ++ xs.drop k)[j]? = some u → ((w.setCells b k vs).setCells b (k + vs.length) (xs.drop k)).cell? ⟨b, j, none⟩ = some u := by
  intro j u hu
  have hdl : (xs.drop k).length = xs.length - k := List.length_drop
  have hs1 : ∀ j, j < xs.length + vs.length → ((w.setCells b k vs).cell? ⟨b, j, none⟩).isSome = true := fun j hj => isSome_setC _ _ _ _ (fun t ht => hs _ (by omega)) _ (hs j hj)
  rw [List.append_assoc, List.getElem?_append] at hu
  by_cases h1 : j < k
  · rw [if_pos (by simp; omega), List.getElem?_take, if_pos h1] at hu
    rw [World.cell?_setCells_out _ _ _ _ _ (fun _ _ => .inl (show j < k + vs.length by omega)), World.cell?_setCells_out _ _ _ _ _ (fun _ _ => .inl h1)]
    exact hx j u h1 hu
  · rw [if_neg (by simp; omega), List.length_take, Nat.min_eq_left hk, List.getElem?_append] at hu
    by_cases h2 : j - k < vs.length
    · rw [if_pos h2, List.getElem?_eq_getElem h2] at hu
      rw [World.cell?_setCells_out _ _ _ _ _ (fun _ _ => .inl (show j < k + vs.length by omega))]
      have := World.cell?_setCells_in b vs k w (fun t ht => hs _ (by omega)) (j - k) h2
      rw [show k + (j - k) = j by omega] at this
      rw [this]; exact hu
    · rw [if_neg h2] at hu
      obtain ⟨hlt, he⟩ := List.getElem?_eq_some_iff.1 hu
      have := World.cell?_setCells_in b (xs.drop k) (k + vs.length) (w.setCells b k vs) (fun t ht => hs1 _ (by omega)) (j - k - vs.length) hlt
      rw [show k + vs.length + (j - k - vs.length) = j by omega] at this
      rw [this, he]
end
theorem batCells_take (l : List Bat) : ∀ k, batCells (l.take k) = (batCells l).take (2 * k) := by
  induction l with
  | nil => intro k; simp [batCells]
  | cons b t ih =>
    intro k
    cases k with
    | zero => simp [batCells]
    | succ k => have := ih k; simp only [batCells, List.take_succ_cons, List.flatMap_cons, Nat.mul_succ] at this ⊢; rw [this]; simp
theorem batCells_drop (l : List Bat) : ∀ k, batCells (l.drop k) = (batCells l).drop (2 * k) := by
  induction l with
  | nil => intro k; simp [batCells]
  | cons b t ih =>
    intro k
    cases k with
    | zero => simp [batCells]
    | succ k => have := ih k; simp only [batCells, List.drop_succ_cons, List.flatMap_cons, Nat.mul_succ] at this ⊢; rw [this]; simp
theorem IsBats.of_cells {w : World} {b c : Nat} {l : List Bat} (hb : b < w.heap.size) (hc : l.length ≤ c) (hl : l.length ≤ 140737488355328) (h : ∀ j u, (batCells l)[j]? = some u → w.cell? ⟨b, j, none⟩ = some u) : IsBats w (.slice (some ⟨b, 0, none⟩) l.length c) l := by
  refine ⟨hl, some ⟨b, 0, none⟩, c, hc, rfl, .inr ⟨b, 0, rfl, hb, fun j hj => ?_⟩⟩
  obtain ⟨h0, h1⟩ := batCells_at l j hj
  refine ⟨[.int .i64 l[j].c, .int .i64 l[j].g], rfl, rfl, fun i hi => ?_⟩
  have : i = 0 ∨ i = 1 := by simp at hi; omega
  rcases this with rfl | rfl
  · simpa using h _ _ h0
  · simpa using h _ _ h1
theorem batCells_one (l : List Bat) : ∀ u ∈ batCells l, u.oneCell' = true := by
  intro u hu
  simp only [batCells, List.mem_flatMap] at hu
  obtain ⟨b, _, hb⟩ := hu
  simp at hb
  rcases hb with rfl | rfl <;> rfl
theorem eqNil_some (a : Addr) (n c : Nat) (w : World) : (binOp .eql 40 (.slice (some a) n c) (.slice none 0 0)).run Try.prog w = .ok (.bool false) w := by kernel_rfl
theorem eqNil_none (w : World) : (binOp .eql 40 (.slice none 0 0) (.slice none 0 0)).run Try.prog w = .ok (.bool true) w := by kernel_rfl
set_option maxRecDepth 100000 in
set_option maxHeartbeats 4000000 in
theorem Clone_any (v : Value) (l : List Bat) (base : Nat) (w : World) (h : w.ownsRow base 28 2 v l.length (batCells l)) (hlen : l.length ≤ 1000000) :
    Calls Try.prog 70 #[v] w fun e w' => (∃ v', e = .returned v' ∧ w'.ownsRow w.heap.size 28 2 v' l.length (batCells l)) ∧ Below w.heap.size w w' := by
  obtain ⟨i0, hi, hz0, hz1, hz2⟩ := info_parts infoBat
  rcases h.2 with ⟨rfl, h0⟩ | ⟨g, cap, cur, rfl, hb, hg, hnc, hcm, hcs, htk⟩
  · have heq := eqNil_none
    go_enter Try.func70, Try.ntmps70
    go_wp2_with fail
    refine bodyPost_ret (v := .slice none 0 0) (by simp [results, Try.results70, go_sem]) rfl ?_
    obtain rfl : l = [] := List.length_eq_zero_iff.1 h0
    exact ⟨⟨_, rfl, World.ownsRow_nil _ _ _ _⟩, Below.refl _ _⟩
  · have hcell := h.cells (g := g) rfl
    have hone := batCells_one l
    have heq := eqNil_some
    have H_h := Lib.hid h; clear h; have H_hone := Lib.hid hone; clear hone
    go_enter Try.func70, Try.ntmps70
    have hmade : (w.alloc (.cells #[] 28)).ownsRow w.heap.size 28 2 (.slice (some ⟨w.heap.size, 0, none⟩) 0 0) 0 [] := World.ownsRow_made w #[] 0 (Nat.le_refl _) (by unfold maxLen; omega) rfl
    have hgw : g < w.heap.size := (Array.getElem?_eq_some_iff.1 hg).1
    have hbl := batCells_len l
    have hcellA : ∀ j u, (batCells l)[j]? = some u → (w.alloc (.cells #[] 28)).cell? ((⟨g, 0, none⟩ : Addr).add j) = some u := fun j u hu => by
      have := hcell j u hu
      rw [Addr.add_lit] at this ⊢
      rw [World.cell?_alloc_lt _ _ _ hgw]; exact this
    have H_hmade := Lib.hid hmade; clear hmade; have H_hcell := Lib.hid hcell; clear hcell; have H_hcellA := Lib.hid hcellA; clear hcellA
    go_wp2_with (at_builtin; refine wpList_append_own _ rfl _ _ 40 rfl w.heap.size 28 i0 (.agg #[.int .i64 0, .int .i64 0]) 2 16 Try.underlying40 hi hz0 hz1 hz2 rfl (by decide) _ _ _ rfl H_hmade.out ⟨g, 0, none⟩ l.length cap (batCells l) rfl hbl H_hcellA.out H_hone.out (by unfold maxLen; omega) (by omega) (by simp) ?_; intro v' w1 hown' hgrow _)
    go_ret
    refine ⟨⟨v', rfl, by simpa using hown'⟩, ?_⟩
    exact ((Below.refl w.heap.size w).alloc (Nat.le_refl _) (.cells #[] 28)).grown hgrow (by simp) (fun k hk => by cases hk; exact Nat.le_refl _)
theorem drew_setC (b : Nat) : ∀ (vs : List Value) (o : Nat) (w : World), (w.setCells b o vs).drew = w.drew.setCells b o vs
  | [], _, _ => rfl
  | v :: r, o, w => by rw [World.setCells, World.setCells, drew_setC b r]; rfl
theorem below_setC {B b : Nat} {a : World} (hb : B ≤ b) : ∀ (vs : List Value) (o : Nat) (w : World), Below B a w → Below B a (w.setCells b o vs)
  | [], _, _, h => h
  | v :: r, o, w, h => below_setC hb r (o + 1) _ (h.setCell (p := ⟨b, o, none⟩) hb v)
theorem size_eq {w w' : World} (h : ∀ k : Nat, w.heap[k]? = w'.heap[k]?) : w.heap.size = w'.heap.size := by
  rw [Array.ext_getElem? h]
theorem sizeBat : (Try.prog.info? 28).map (·.size) = some 2 := by kernel_rfl
theorem sizeOfBat (w : World) : (Go.sizeOf 28).run Try.prog w = .ok 2 w := by kernel_rfl
set_option maxRecDepth 100000 in
set_option maxHeartbeats 4000000 in
theorem Insert_room (l : List Bat) (x : Bat) (i g cap vb base : Nat) (cur : Array Value) (w : World) (h : w.ownsRow base 28 2 (.slice (some ⟨g, 0, none⟩) l.length cap) l.length (batCells l))
    (hg : w.heap[g]? = some (.cells cur 28 (0, 0))) (hcs : cur.size = cap * 2) (hcm : cap ≤ maxLen) (hb : base ≤ g) (hi : i < l.length) (hroom : l.length + 1 ≤ cap) (hlen : l.length ≤ 1000000)
    (hvb : w.heap[vb]? = some (.cells #[.int .i64 x.c, .int .i64 x.g] 28 (0, 0))) (hne : ¬ vb = g) :
    Calls Try.prog 69 #[.slice (some ⟨g, 0, none⟩) l.length cap, .int .i64 i, .slice (some ⟨vb, 0, none⟩) 1 1] w fun e w' => (∃ v', e = .returned v' ∧ IsBats w' v' (l.take i ++ [x] ++ l.drop i)) ∧ Below base w w' := by
  have hgw : g < w.heap.size := (Array.getElem?_eq_some_iff.1 hg).1
  have hxs : ∀ j u, (batCells l)[j]? = some u → w.cell? ⟨g, j, none⟩ = some u := fun j u hu => by
    have := h.cells (g := g) rfl j u hu
    rw [Addr.add_lit] at this; simpa using this
  have hsp : ∀ j, j < cap * 2 → (w.cell? ⟨g, j, none⟩).isSome = true := fun j hj => by simp [World.cell?, hg, hcs, hj]
  have hfz : ∀ j, w.frozen? ⟨g, j, none⟩ = false := fun j => frozen_of_row w g j cur _ hg
  have hone := batCells_one l
  have hbl := batCells_len l
  have hv0 : ∀ j u, [Value.int .i64 x.c, .int .i64 x.g][j]? = some u → w.cell? ⟨vb, j, none⟩ = some u := fun j u hu => by
    simp only [World.cell?, hvb]; simpa using hu
  have hov : ∀ lb cb, (callFunc 91 #[.slice (some ⟨vb, 0, none⟩) 1 1, .slice (some ⟨g, (i + 1) * 2, none⟩) lb cb]).run Try.prog w = .ok (.value (.bool false)) w := fun lb cb => by
    rw [run_callFunc_extern Try.func91 (by kernel_rfl) (by kernel_rfl) (by kernel_rfl) (e := Extern.SlicesOverlaps.overlaps #[40, 40] #[4]) (by kernel_rfl),
      Lib.run_overlaps_apart w 40 4 28 Try.underlying40 2 sizeOfBat ⟨vb, 0, none⟩ ⟨g, (i + 1) * 2, none⟩ 1 1 lb cb hne 28 28 2 (cap * 2) (by simp [World.shape?, hvb]) (by simp [World.shape?, hg, hcs]) (by omega) (frozen_of_row w vb _ _ _ hvb) (frozen_of_row w vb _ _ _ hvb)]
    rfl
  have hdl : ((batCells l).drop (i * 2)).length = (l.length - i) * 2 := by rw [List.length_drop, hbl]; omega
  have hcp1 : ∀ ty dc sc, (Builtin.copy_ #[40, 40] ty #[.slice (some ⟨g, (i + 1) * 2, none⟩) (l.length - i) dc, .slice (some ⟨g, i * 2, none⟩) (l.length + 1 - i) sc]).run Try.prog w.drew = .ok (goInt ((l.length - i : Nat) : Int)) (w.drew.setCells g ((i + 1) * 2) ((batCells l).drop (i * 2))) := fun ty dc sc => by
    have hmin : Nat.min (l.length + 1 - i) (l.length - i) = l.length - i := by simp only [Nat.min_def]; split <;> omega
    have := run_copy_rows (P := Try.prog) w.drew 40 40 ty 28 2 g ((i + 1) * 2) (l.length - i) dc ⟨g, i * 2, none⟩ (l.length + 1 - i) sc ((batCells l).drop (i * 2)) Try.underlying40 sizeBat (by rw [hmin]; exact hdl)
      (fun j v hj => by rw [Addr.add_lit]; exact hxs (i * 2 + j) v (by rwa [List.getElem?_drop] at hj))
      (fun j hj => hsp _ (by rw [hdl] at hj; omega)) (fun j hj => hfz _) (fun v hv => hone v (List.mem_of_mem_drop hv))
    rw [hmin] at this; exact this
  obtain ⟨W1, hW1⟩ : ∃ W1, W1 = w.drew.setCells g ((i + 1) * 2) ((batCells l).drop (i * 2)) := ⟨_, rfl⟩
  have hsp1 : ∀ k, k < cap * 2 → (W1.cell? ⟨g, k, none⟩).isSome = true := fun k hk => by
    rw [hW1]
    exact isSome_setC g ((batCells l).drop (i * 2)) ((i + 1) * 2) w.drew (fun j hj => hsp _ (by rw [hdl] at hj; omega)) k (hsp k hk)
  have hcp2 : ∀ (W : World), (∀ x, W.cell? x = W1.cell? x) → (∀ x, W.frozen? x = W1.frozen? x) → ∀ ty dc, (Builtin.copy_ #[40, 40] ty #[.slice (some ⟨g, i * 2, none⟩) (l.length + 1 - i) dc, .slice (some ⟨vb, 0, none⟩) 1 1]).run Try.prog W = .ok (goInt 1) (W.setCells g (i * 2) [.int .i64 x.c, .int .i64 x.g]) := fun W hWc hWf ty dc => by
    have hmin : Nat.min 1 (l.length + 1 - i) = 1 := by simp only [Nat.min_def]; split <;> omega
    have := run_copy_rows (P := Try.prog) W 40 40 ty 28 2 g (i * 2) (l.length + 1 - i) dc ⟨vb, 0, none⟩ 1 1 [.int .i64 x.c, .int .i64 x.g] Try.underlying40 sizeBat (by rw [hmin]; rfl)
      (fun j v hj => by
        rw [Addr.add_lit, hWc, hW1, World.cell?_setCells_out g _ _ _ _ (fun h _ => absurd h hne)]
        simpa using hv0 j v hj)
      (fun j hj => by rw [hWc]; exact hsp1 _ (by simp at hj; omega)) (fun j hj => by rw [hWf, hW1, World.frozen?_setCells]; exact hfz _) (by simp [Value.oneCell'])
    rw [hmin] at this; exact this
  rw [← hW1] at hcp1
  have hfin : ∀ W : World, (∀ k : Nat, W.heap[k]? = (W1.setCells g (i * 2) [.int .i64 x.c, .int .i64 x.g]).heap[k]?) → W.os = w.os → W.tape = w.tape → W.output = w.output → IsBats W (.slice (some ⟨g, 0, none⟩) (l.length + 1) cap) (l.take i ++ [x] ++ l.drop i) ∧ Below base w W := by
    intro W hW h1 h2 h3
    have hll : (l.take i ++ [x] ++ l.drop i).length = l.length + 1 := by simp; omega
    have hcell : ∀ a, W.cell? a = (W1.setCells g (i * 2) [.int .i64 x.c, .int .i64 x.g]).cell? a := fun a => World.cell?_of_block (hW _)
    have hbc : batCells (l.take i ++ [x] ++ l.drop i) = (batCells l).take (i * 2) ++ [.int .i64 x.c, .int .i64 x.g] ++ (batCells l).drop (i * 2) := by
      rw [show i * 2 = 2 * i by omega, ← batCells_take, ← batCells_drop]; simp [batCells]
    have hins := ins_cells w.drew g (i * 2) (batCells l) [.int .i64 x.c, .int .i64 x.g] (by omega) (fun j v hj => hxs j v hj) (fun j hj => hsp j (by simp at hj; omega))
    rw [show i * 2 + [Value.int .i64 x.c, Value.int .i64 x.g].length = (i + 1) * 2 by simp; omega, ← hW1] at hins
    have hB0 : Below g w (W1.setCells g (i * 2) [.int .i64 x.c, .int .i64 x.g]) := by
      rw [hW1]
      exact below_setC (Nat.le_refl _) _ _ _ (below_setC (Nat.le_refl _) _ _ _ (Below.refl _ w).drew)
    have hBg : Below g w W := ⟨h1, h2, h3, by have := hB0.size; have e : W.heap.size = (W1.setCells g (i * 2) [.int .i64 x.c, .int .i64 x.g]).heap.size := size_eq hW; omega, fun k hk => (hW k).trans (hB0.block k hk)⟩
    refine ⟨?_, hBg.mono hb⟩
    rw [← hll]
    refine IsBats.of_cells (Nat.lt_of_lt_of_le hgw hBg.size) (by omega) (by omega) fun j u hu => ?_
    rw [hbc] at hu
    rw [hcell]
    exact hins j u hu
  have mixed : Try.prog.follows .mixedOrders = true := by kernel_rfl
  have hz2 : ¬ ((i : Int) = (l.length : Int)) := by omega
  have hw1 : IntKind.i64.wrap ((i : Int) + 1) = (i : Int) + 1 := by rw [IntKind.wrap_i64]; omega
  have hb1 : (0 : Int) ≤ (i : Int) + 1 := by omega
  have hin : i ≤ l.length := by omega
  have htn : ((i : Int) + 1).toNat = i + 1 := by omega
  have hb2 : ¬ (cap = i + 1) := by omega
  have hb3 : (i : Int) ≤ (l.length : Int) + 1 := by omega
  have hb4 : ¬ (cap = i) := by omega
  have hc63 : cap ≤ 9223372036854775807 := by unfold maxLen at hcm; omega
  have H_hxs := Lib.hid hxs; clear hxs; have H_hsp := Lib.hid hsp; clear hsp; have H_hfz := Lib.hid hfz; clear hfz; have H_hone := Lib.hid hone; clear hone; have H_hv0 := Lib.hid hv0; clear hv0; have H_hdl := Lib.hid hdl; clear hdl; have H_hsp1 := Lib.hid hsp1; clear hsp1; have H_hfin := Lib.hid hfin; clear hfin; have H_h := Lib.hid h; clear h
  go_enter Try.func69, Try.ntmps69
  go_wp2_with (simp only [hov])
  go_still_tail 8, (by kernel_rfl)
  change wpList _ _ _ _ _ w.drew
  go_wp2_with (first
    | (at_builtin; refine wpList_copy_runB _ rfl _ _ 40 40 rfl _ _ rfl rfl (hcp1 _ _ _) ?_)
    | (at_builtin; refine wpList_copy_runB _ rfl _ _ 40 40 rfl _ _ rfl rfl (hcp2 _ (fun _ => rfl) (fun _ => rfl) _ _) ?_))
  have hbs := (below_setC (b := g) (Nat.zero_le _) [Value.int .i64 x.c, Value.int .i64 x.g] (i * 2) _ (below_setC (b := g) (Nat.zero_le _) ((batCells l).drop (i * 2)) ((i + 1) * 2) w.drew (Below.refl 0 w).drew))
  obtain ⟨q1, q2⟩ := H_hfin.out ((w.drew.setCells g ((i + 1) * 2) (List.drop (i * 2) (batCells l))).setCells g (i * 2) [Value.int .i64 x.c, Value.int .i64 x.g]) (fun k => by rw [hW1]) hbs.os hbs.tape hbs.output
  exact bodyPost_ret (v := .slice (some ⟨g, 0, none⟩) (l.length + 1) cap) (by simp [results, Try.results69, go_sem]) rfl ⟨⟨_, rfl, q1⟩, q2⟩

set_option maxRecDepth 100000 in
set_option maxHeartbeats 4000000 in
theorem Insert_grow (l : List Bat) (x : Bat) (i g cap vb base : Nat) (cur : Array Value) (w : World) (h : w.ownsRow base 28 2 (.slice (some ⟨g, 0, none⟩) l.length cap) l.length (batCells l))
    (hg : w.heap[g]? = some (.cells cur 28 (0, 0))) (hnc : l.length ≤ cap) (hbw : base ≤ w.heap.size) (hi : i < l.length) (hroom : cap < l.length + 1) (hlen : l.length ≤ 1000000)
    (hvb : w.heap[vb]? = some (.cells #[.int .i64 x.c, .int .i64 x.g] 28 (0, 0))) :
    Calls Try.prog 69 #[.slice (some ⟨g, 0, none⟩) l.length cap, .int .i64 i, .slice (some ⟨vb, 0, none⟩) 1 1] w fun e w' => (∃ v', e = .returned v' ∧ IsBats w' v' (l.take i ++ [x] ++ l.drop i)) ∧ Below base w w' := by
  obtain ⟨i0, hi0, hz0, hz1, hz2⟩ := info_parts infoBat
  have hgw : g < w.heap.size := (Array.getElem?_eq_some_iff.1 hg).1
  have hvw : vb < w.heap.size := (Array.getElem?_eq_some_iff.1 hvb).1
  have hxs : ∀ j u, (batCells l)[j]? = some u → w.cell? ⟨g, j, none⟩ = some u := fun j u hu => by
    have := h.cells (g := g) rfl j u hu
    rw [Addr.add_lit] at this; simpa using this
  have hone := batCells_one l
  have hbl := batCells_len l
  have hv0 : ∀ j u, [Value.int .i64 x.c, Value.int .i64 x.g][j]? = some u → w.cell? ⟨vb, j, none⟩ = some u := fun j u hu => by
    simp only [World.cell?, hvb]; simpa using hu
  have hdl : ((batCells l).drop (i * 2)).length = (l.length - i) * 2 := by rw [List.length_drop, hbl]; omega
  have hold : (Builtin.firstCells i0.size i (.slice (some ⟨g, 0, none⟩) i cap)).run Try.prog w.drew = .ok ((batCells l).take (i * 2)).toArray w.drew := by
    rw [hz1]
    exact run_firstCells_some w.drew 2 i ⟨g, 0, none⟩ i cap ((batCells l).take (i * 2)) (by rw [List.length_take]; omega) (fun j v hj => by
      rw [Addr.add_lit, Nat.zero_add]
      rw [List.getElem?_take] at hj
      split at hj
      · exact hxs j v hj
      · cases hj)
  have hkk : (l.length : Int) + 1 - (i : Int) = ((l.length + 1 - i : Nat) : Int) := by omega
  have hik : i + (l.length + 1 - i) = l.length + 1 := by omega
  obtain ⟨G, hG⟩ : ∃ G, G = grownCap w (l.length + 1) cap 28 := ⟨_, rfl⟩
  obtain ⟨ROW, hROW⟩ : ∃ ROW : Array Value, ROW = ((batCells l).take (i * 2)).toArray ++ Builtin.zeroCells (Value.agg #[.int .i64 0, .int .i64 0]).cells (l.length + 1 - i) ++ Builtin.zeroCells (Value.agg #[.int .i64 0, .int .i64 0]).cells (G - (l.length + 1)) := ⟨_, rfl⟩
  have hrz : ∀ ty, (Builtin.append_ #[40, 3] ty #[.slice (some ⟨g, 0, none⟩) i cap, .int .i64 ((l.length : Int) + 1 - (i : Int))]).run Try.prog w =
      .ok (.slice (some ⟨w.heap.size, 0, none⟩) (l.length + 1) G) (w.drew.alloc (.cells ROW 28)) := fun ty => by
    have h := Lib.run_append_grow_zeros (P := Try.prog) w 40 3 ty 28 i0 _ .i64 .i64 Try.underlying40 Try.underlying3 hi0 hz0 (some ⟨g, 0, none⟩) i cap ((batCells l).take (i * 2)) hold (l.length + 1 - i) (by omega) (by omega) (by omega) (by omega) (by rw [hz2]; omega) (by rw [hz2, hik]; exact growslice_fits hroom (by omega))
    rw [hik, ← hG, ← hROW] at h
    rw [hkk]
    exact h
  have hRl : (l.length + 1) * 2 ≤ ROW.size := by
    rw [hROW]
    simp [Builtin.zeroCells, Value.cells, hbl]
    omega
  have hRx : ∀ j v, j < i * 2 → (batCells l)[j]? = some v → ROW[j]? = some v := fun j v hj hv => by
    rw [hROW, Array.append_assoc, Array.getElem?_append, if_pos (by simp [hbl]; omega)]
    simp [List.getElem?_take, hj, hv]
  obtain ⟨W1, hW1⟩ : ∃ W1, W1 = w.drew.alloc (.cells ROW 28) := ⟨_, rfl⟩
  rw [← hW1] at hrz
  have hN : ∀ j, j < (l.length + 1) * 2 → (W1.cell? ⟨w.heap.size, j, none⟩).isSome = true := fun j hj => by
    rw [hW1, World.cell?_alloc_at (w := w.drew) ROW _ w.heap.size j rfl, Array.getElem?_eq_getElem (by omega)]; rfl
  have hNx : ∀ j v, j < i * 2 → (batCells l)[j]? = some v → W1.cell? ⟨w.heap.size, j, none⟩ = some v := fun j v hj hv => by
    rw [hW1, World.cell?_alloc_at (w := w.drew) ROW _ w.heap.size j rfl]; exact hRx j v hj hv
  have hNf : ∀ j, W1.frozen? ⟨w.heap.size, j, none⟩ = false := fun j => by rw [hW1]; exact World.frozen?_alloc_at (w := w.drew) ROW _ w.heap.size j rfl
  have hOb : ∀ j v, w.cell? ⟨g, j, none⟩ = some v → W1.cell? ⟨g, j, none⟩ = some v := fun j v h => by rw [hW1, World.cell?_alloc_past (w := w.drew) _ g j hgw]; exact h
  have hOv : ∀ j v, w.cell? ⟨vb, j, none⟩ = some v → W1.cell? ⟨vb, j, none⟩ = some v := fun j v h => by rw [hW1, World.cell?_alloc_past (w := w.drew) _ vb j hvw]; exact h
  have hcpA : ∀ (W : World), (∀ x, W.cell? x = W1.cell? x) → (∀ x, W.frozen? x = W1.frozen? x) → ∀ ty dc, (Builtin.copy_ #[40, 40] ty #[.slice (some ⟨w.heap.size, i * 2, none⟩) (l.length + 1 - i) dc, .slice (some ⟨vb, 0, none⟩) 1 1]).run Try.prog W = .ok (goInt 1) (W.setCells w.heap.size (i * 2) [.int .i64 x.c, .int .i64 x.g]) := fun W hWc hWf ty dc => by
    have hmin : Nat.min 1 (l.length + 1 - i) = 1 := by simp only [Nat.min_def]; split <;> omega
    have := run_copy_rows (P := Try.prog) W 40 40 ty 28 2 w.heap.size (i * 2) (l.length + 1 - i) dc ⟨vb, 0, none⟩ 1 1 [.int .i64 x.c, .int .i64 x.g] Try.underlying40 sizeBat (by rw [hmin]; rfl)
      (fun j v hj => by rw [Addr.add_lit, hWc, Nat.zero_add]; exact hOv _ v (hv0 j v hj))
      (fun j hj => by rw [hWc]; exact hN _ (by simp at hj; omega)) (fun j hj => by rw [hWf]; exact hNf _) (by simp [Value.oneCell'])
    rw [hmin] at this; exact this
  have hne : ¬ g = w.heap.size := by omega
  have hcpB : ∀ (W : World), (∀ a, W.cell? a = (W1.setCells w.heap.size (i * 2) [.int .i64 x.c, .int .i64 x.g]).cell? a) → (∀ x, W.frozen? x = W1.frozen? x) → ∀ ty dc sc, (Builtin.copy_ #[40, 40] ty #[.slice (some ⟨w.heap.size, (i + 1) * 2, none⟩) (l.length - i) dc, .slice (some ⟨g, i * 2, none⟩) (l.length - i) sc]).run Try.prog W = .ok (goInt ((l.length - i : Nat) : Int)) (W.setCells w.heap.size ((i + 1) * 2) ((batCells l).drop (i * 2))) := fun W hWc hWf ty dc sc => by
    have hmin : Nat.min (l.length - i) (l.length - i) = l.length - i := Nat.min_self _
    have := run_copy_rows (P := Try.prog) W 40 40 ty 28 2 w.heap.size ((i + 1) * 2) (l.length - i) dc ⟨g, i * 2, none⟩ (l.length - i) sc ((batCells l).drop (i * 2)) Try.underlying40 sizeBat (by rw [hmin]; exact hdl)
      (fun j v hj => by
        rw [Addr.add_lit, hWc, World.cell?_setCells_out _ _ _ _ _ (fun h _ => absurd h hne)]
        exact hOb _ v (hxs (i * 2 + j) v (by rwa [List.getElem?_drop] at hj)))
      (fun j hj => by rw [hWc]; exact isSome_setC _ _ _ _ (fun t ht => hN _ (by simp at ht; omega)) _ (hN _ (by rw [hdl] at hj; omega)))
      (fun j hj => by rw [hWf]; exact hNf _) (fun v hv => hone v (List.mem_of_mem_drop hv))
    rw [hmin] at this; exact this
  have hGn : l.length + 1 ≤ G := by rw [hG]; exact grownCap_ge w _ _ _
  have hG63 : G ≤ 9223372036854775807 := by
    have := grownCap_le_maxLen w (l.length + 1) cap 28 (by unfold maxLen; omega)
    rw [← hG] at this
    unfold maxLen at this
    omega
  have hGi : ¬ (G = i) := by omega
  have hGim : ¬ (G = i + 1) := by omega
  have hci : ¬ (cap = i) := by omega
  have hz2' : ¬ ((i : Int) = (l.length : Int)) := by omega
  have hz3 : (cap : Int) < (l.length : Int) + 1 := by omega
  have hw1 : IntKind.i64.wrap ((i : Int) + 1) = (i : Int) + 1 := by rw [IntKind.wrap_i64]; omega
  have hb1 : (0 : Int) ≤ (i : Int) + 1 := by omega
  have hin : i ≤ l.length := by omega
  have htn : ((i : Int) + 1).toNat = i + 1 := by omega
  have hb3 : (i : Int) ≤ (l.length : Int) := by omega
  have hcap63 : cap ≤ 9223372036854775807 := by omega
  have hE1 : ∀ x, ((w.alloc (.cells ROW 28)).drew).cell? x = (w.drew.alloc (.cells ROW 28)).cell? x := fun x => rfl
  have hE2 : ∀ x, ((w.alloc (.cells ROW 28)).drew).frozen? x = (w.drew.alloc (.cells ROW 28)).frozen? x := fun x => rfl
  rw [← hW1] at hE1 hE2
  have mixed : Try.prog.follows .mixedOrders = true := by kernel_rfl
  clear hkk hik hold hROW hG hRl
  have H_hxs := Lib.hid hxs; clear hxs; have H_hone := Lib.hid hone; clear hone; have H_hv0 := Lib.hid hv0; clear hv0; have H_hdl := Lib.hid hdl; clear hdl; have H_hRx := Lib.hid hRx; clear hRx; have H_hN := Lib.hid hN; clear hN; have H_hNx := Lib.hid hNx; clear hNx; have H_hNf := Lib.hid hNf; clear hNf; have H_hOb := Lib.hid hOb; clear hOb; have H_hOv := Lib.hid hOv; clear hOv; have H_h := Lib.hid h; clear h
  go_enter Try.func69, Try.ntmps69
  go_wp2_with (first
    | (at_builtin; refine Lib.wpList_append_run _ rfl _ _ _ _ rfl _ _ rfl rfl _ _ (hrz _) ?_)
    | (at_builtin; refine wpList_copy_runB _ rfl _ _ 40 40 rfl _ _ rfl rfl (hcpA _ (fun _ => rfl) (fun _ => rfl) _ _) ?_))
  obtain ⟨W2, hW2⟩ : ∃ W2, (w.alloc (.cells ROW 28)).drew.setCells w.heap.size (i * 2) [Value.int .i64 x.c, Value.int .i64 x.g] = W2 := ⟨_, rfl⟩
  have hF1 : ∀ a, W2.cell? a = (W1.setCells w.heap.size (i * 2) [Value.int .i64 x.c, Value.int .i64 x.g]).cell? a := fun a => by rw [← hW2, hW1]; rfl
  have hW21 : W2 = W1.setCells w.heap.size (i * 2) [Value.int .i64 x.c, Value.int .i64 x.g] := by rw [← hW2, hW1]; rfl
  have hF2 : ∀ a, W2.frozen? a = W1.frozen? a := fun a => by rw [← hW2, hW1, World.frozen?_setCells]; rfl
  have hb1W : Below w.heap.size w W2 := by
    rw [← hW2]
    exact below_setC (Nat.le_refl _) _ _ _ ((Below.refl _ w).alloc (Nat.le_refl _) _).drew
  have hsz2 : w.heap.size < W2.heap.size := by
    rw [← hW2]
    have := (below_setC (b := w.heap.size) (Nat.le_refl _) [Value.int .i64 x.c, Value.int .i64 x.g] (i * 2) _ (Below.refl w.heap.size (w.alloc (.cells ROW 28)).drew)).size
    simp at this; omega
  rw [hW2]
  clear hW2
  have H_hF1 := Lib.hid hF1; clear hF1; have H_hF2 := Lib.hid hF2; clear hF2; have H_hb1W := Lib.hid hb1W; clear hb1W; have H_hsz2 := Lib.hid hsz2; clear hsz2; have H_hW21 := Lib.hid hW21; clear hW21
  go_still_tail 8, (by kernel_rfl)
  change wpList _ _ _ _ _ W2.drew
  have hcB := hcpB W2.drew (fun a => H_hF1.out a) (fun a => H_hF2.out a)
  go_wp2_with (at_builtin; go_loud (refine wpList_copy_runB _ rfl _ _ 40 40 rfl _ _ rfl rfl (hcB _ _ _) ?_))
  have hB2 : Below w.heap.size w (W2.drew.setCells w.heap.size ((i + 1) * 2) ((batCells l).drop (i * 2))) := below_setC (Nat.le_refl _) _ _ _ H_hb1W.out.drew
  have hll : (l.take i ++ [x] ++ l.drop i).length = l.length + 1 := by simp; omega
  have hbc : batCells (l.take i ++ [x] ++ l.drop i) = (batCells l).take (i * 2) ++ [.int .i64 x.c, .int .i64 x.g] ++ (batCells l).drop (i * 2) := by
    rw [show i * 2 = 2 * i by omega, ← batCells_take, ← batCells_drop]; simp [batCells]
  have hins := ins_cells' W1 w.heap.size (i * 2) (batCells l) [.int .i64 x.c, .int .i64 x.g] (by omega) (fun j v h1 h2 => H_hNx.out j v h1 h2) (fun j hj => H_hN.out j (by simp at hj; omega))
  rw [show i * 2 + [Value.int .i64 x.c, Value.int .i64 x.g].length = (i + 1) * 2 by simp; omega] at hins
  refine bodyPost_ret (v := .slice (some ⟨w.heap.size, 0, none⟩) (l.length + 1) G) (by simp [results, Try.results69, go_sem]) rfl ⟨⟨_, rfl, ?_⟩, hB2.mono hbw⟩
  rw [← hll]
  refine IsBats.of_cells (Nat.lt_of_lt_of_le H_hsz2.out ?_) (by omega) (by omega) fun j u hu => ?_
  · have := (below_setC (b := w.heap.size) (Nat.le_refl _) ((batCells l).drop (i * 2)) ((i + 1) * 2) _ (Below.refl w.heap.size W2.drew)).size
    simpa using this
  · rw [hbc] at hu
    rw [← drew_setC, H_hW21.out]
    exact hins j u hu
end Go.Proofs.Ytpkjmnfgpbliaaa
