/-
  slices.AppendSeq and slices.Collect at batches and at ints, over any iterator that yields known elements. Conditions: the elements are few enough for memory.
-/
import Derived.Test.YtpkjmnfgpbliaaaZLoses
namespace Go.Proofs.Ytpkjmnfgpbliaaa
open Go.RowKit Go.Shelf
set_option linter.unusedSimpArgs false
set_option linter.unusedVariables false
attribute [local go_sem] Oper.semAt_some

def batCells (l : List Bat) : List Value := l.flatMap fun b => [.int .i64 b.c, .int .i64 b.g]
theorem batCells_snoc (l : List Bat) (b : Bat) : batCells (l ++ [b]) = batCells l ++ [.int .i64 b.c, .int .i64 b.g] := by simp [batCells]
theorem batCells_len (l : List Bat) : (batCells l).length = l.length * 2 := by induction l with
  | nil => rfl
  | cons b t ih => simp [batCells] at ih ⊢; omega

theorem batCells_at (l : List Bat) : ∀ (j : Nat) (hj : j < l.length), (batCells l)[j * 2]? = some (.int .i64 l[j].c) ∧ (batCells l)[j * 2 + 1]? = some (.int .i64 l[j].g) := by
  induction l with
  | nil => intro j hj; exact absurd hj (by simp)
  | cons b t ih =>
    intro j hj
    cases j with
    | zero => simp [batCells]
    | succ j =>
      have h := ih j (by simpa using hj)
      have e : batCells (b :: t) = .int .i64 b.c :: .int .i64 b.g :: batCells t := by simp [batCells]
      rw [e, show (j + 1) * 2 = j * 2 + 1 + 1 from by omega]
      simpa using h

/-- A slice that owns the cells of batches reads as them. -/
theorem IsBats.of_owns {w : World} {base : Nat} {v : Value} {l : List Bat} (h : w.ownsRow base 28 2 v l.length (batCells l)) (hl : l.length ≤ 140737488355328) : IsBats w v l := by
  obtain ⟨_, h⟩ := h
  rcases h with ⟨rfl, h0⟩ | ⟨g, cap, cur, rfl, hb, hg, hlc, hcm, hcs, hcur⟩
  · obtain rfl : l = [] := List.length_eq_zero_iff.1 h0
    exact nilList w
  · refine ⟨hl, _, cap, hlc, rfl, .inr ⟨g, 0, rfl, (Array.getElem?_eq_some_iff.1 hg).1, fun j hj => ?_⟩⟩
    refine ⟨[.int .i64 l[j].c, .int .i64 l[j].g], rfl, rfl, fun i hi => ?_⟩
    have hat := batCells_at l j hj
    rw [← hcur] at hat
    have hcell : ∀ o, o < l.length * 2 → w.cell? ⟨g, 0 + o, none⟩ = (cur.toList.take (l.length * 2))[o]? := by
      intro o ho
      simp only [World.cell?, hg, Nat.zero_add, Option.isSome_none, Bool.false_eq_true, if_false]
      rw [List.getElem?_take, if_pos ho]; simp
    have h2 : i = 0 ∨ i = 1 := by simp at hi; omega
    rcases h2 with rfl | rfl
    · rw [hcell _ (by omega)]; simpa using hat.1
    · rw [hcell _ (by omega)]; simpa using hat.2

theorem IsInts.of_owns {w : World} {base : Nat} {v : Value} {l : List Int} (h : w.ownsRow base 3 1 v l.length (l.map (Value.int .i64))) (hl : l.length ≤ 140737488355328) : IsInts w v l := by
  obtain ⟨_, h⟩ := h
  rcases h with ⟨rfl, h0⟩ | ⟨g, cap, cur, rfl, hb, hg, hlc, hcm, hcs, hcur⟩
  · obtain rfl : l = [] := List.length_eq_zero_iff.1 h0
    exact nilList w
  · refine ⟨hl, _, cap, hlc, rfl, .inr ⟨g, 0, rfl, (Array.getElem?_eq_some_iff.1 hg).1, fun j hj => ?_⟩⟩
    refine ⟨[.int .i64 l[j]], rfl, rfl, fun i hi => ?_⟩
    obtain rfl : i = 0 := by simpa using hi
    have hat : (l.map (Value.int .i64))[j]? = some (.int .i64 l[j]) := by simp [hj]
    rw [← hcur] at hat
    simp only [World.cell?, hg, Nat.zero_add, Option.isSome_none, Bool.false_eq_true, if_false]
    rw [List.getElem?_take, if_pos (by omega)] at hat
    simpa using hat

theorem infoBat : (Try.prog.info? 28).map (fun i => (i.zero, i.size, i.bytes)) = some (some (.agg #[.int .i64 0, .int .i64 0]), 2, 16) := by kernel_rfl
theorem infoInt : (Try.prog.info? 3).map (fun i => (i.zero, i.size, i.bytes)) = some (some (.int .i64 0), 1, 8) := by kernel_rfl

set_option maxRecDepth 100000 in
set_option maxHeartbeats 4000000 in
theorem appendSeqBat_any (gf : Nat) (lb : Array Value) (bs : List Bat) (D : Nat → Prop) (w : World)
    (hseq : ∀ n, 1 ≤ n → SeqStopsK Fence.wide n Try.prog gf lb encB (KeepB D) (fun ys => ys = bs.attach) (fun pre => pre <+: bs.attach) bs.length w) (hDw : ∀ k, D k → k < w.heap.size)
    (eg : ∀ xs w', (callFunc gf xs).run Try.prog w' = .ok (.enter gf xs) w') (hlen : bs.length ≤ 1000000) :
    Calls Try.prog 89 #[.slice none 0 0, .func (.func gf) #[] lb] w fun e w' => (∃ v, e = .returned v ∧ w'.ownsRow w.heap.size 28 2 v bs.length (batCells bs)) ∧ Below w.heap.size w w' := by
  obtain ⟨i0, hi, hz0, hz1, hz2⟩ := info_parts infoBat
  refine (callsIn_wide (n := 10)).1 ?_
  refine callsIn_of_wp_marks Try.func89 rfl trivial ?_ rfl
  simp only [Try.ntmps89, List.size_toArray, List.length_cons, List.length_nil, Nat.reduceAdd, Nat.reduceSub, Array.replicate_succ, Array.replicate_zero, List.push_toArray, List.append_toArray, List.nil_append, List.cons_append]
  gi_wp2
  have b0 := Boxed.new w 40 (.slice none 0 0)
  have hB0 : Below w.heap.size w (w.alloc (.cells #[.slice none 0 0] 40)) := (Below.refl _ w).alloc (Nat.le_refl _) _
  have hsz : (w.alloc (.cells #[.slice none 0 0] 40)).heap.size = w.heap.size + 1 := by simp
  obtain ⟨W0, hW0⟩ : ∃ W0, w.alloc (.cells #[.slice none 0 0] 40) = W0 := ⟨_, rfl⟩
  rw [hW0] at b0 hB0 hsz ⊢
  clear hW0
  refine wpIn_rangeFunc_ownH (F := Fence.wide) (n := 10) rfl (by omega) (gf := gf) (lb := lb) rfl trivial eg
    (hseq (10 - 1) (by omega)) KeepB.trans (keepB_b (fun k hk => by have := hDw k hk; omega)) hB0 (fun _ => rfl)
    (fun pre W => (∃ v, Boxed W w.heap.size 40 v ∧ W.ownsRow w.heap.size 28 2 v pre.length (batCells (pre.map Subtype.val)) ∧ True) ∧ Below w.heap.size w W)
    (fun c pre W => False)
    (OwnFrom.and (Own.from (holdsRow_own w.heap.size w.heap.size 40 28 2 (fun (pre : List { b : Bat // b ∈ bs }) => pre.length) (fun pre => batCells (pre.map Subtype.val)) (fun _ _ => True)) _) (ownFrom_below (Nat.le_refl _) (by omega)))
    (fun _ _ _ _ _ hs _ _ => hs) ⟨⟨_, b0, World.ownsRow_nil _ _ _ _, trivial⟩, hB0⟩
    (fun x a' W => ∃ Bx, w.heap.size < Bx ∧ W.heap[Bx]? = some (.cells #[.int .i64 x.1.c, .int .i64 x.1.g] 28 (0, 0)) ∧ a' = { tmps := #[.slice none 0 0, .func (.func gf) #[] lb, .pointer (some ⟨w.heap.size, 0, none⟩), undef, .slice none 0 0, .pointer (some ⟨Bx, 0, none⟩), .func (.func gf) #[] lb, .agg #[.int .i64 x.1.c, .int .i64 x.1.g], undef, undef, undef, undef, undef], defers := [] })
    (fun x a' _ X Y row hs hg hr => by obtain ⟨Bx, h1, h2, h3⟩ := hs; exact ⟨Bx, h1, block_keep h2 hg (fun r e => (hr r e).2), h3⟩)
    ?assign ?body ?done ?stop
  case assign =>
    rintro l pre x W K hi hK
    dsimp only [encB]
    gi_wp2
    obtain ⟨⟨v, h1, h2, _⟩, h5⟩ := hi
    exact hK _ _ ((KeepsOthers.alloc _ _).from _) (KeepB.of_below ((Below.refl _ W).alloc (Nat.le_refl _) _) (fun k hk => Nat.lt_of_lt_of_le (hDw k hk) h5.size)) ⟨⟨v, h1.alloc _, h2.alloc _, trivial⟩, h5.alloc h5.size _⟩ ⟨W.heap.size, h1.lt, heap_new W _, rfl⟩
  case body =>
    rintro l pre x a' W hl ⟨r, hr⟩ ⟨⟨v, hv, hrow, _⟩, hB⟩ ⟨Bx, hBx, bX, rfl⟩ hlt
    have cv := hv.cell
    have fv := hv.frozen
    obtain ⟨cX0, cX1⟩ := cells_of_block2 bX
    have hBs := hB.size
    have hpl : pre.length ≤ 1000000 := by omega
    gi_wp2_with (gi_at_builtin; refine wpListIn_append_own _ rfl _ _ 40 rfl w.heap.size 28 i0 (.agg #[.int .i64 0, .int .i64 0]) 2 16 Try.underlying40 hi hz0 hz1 hz2 rfl (by decide) _ _ _ rfl (hrow.alloc _) ⟨W.heap.size, 0, none⟩ 1 1 [.int .i64 x.1.c, .int .i64 x.1.g] rfl rfl (cell_two_new _ _ _ _) (by simp [Value.oneCell']) (by unfold maxLen; omega) (by omega) (by simp; omega) ?_; intro v' w1 hown' hgrow _; obtain ⟨g', cap', rfl⟩ := ownsRow_succ hown'; obtain ⟨hv1, hv2, hr2, hk2, hb2⟩ := hv.appended (by decide) hrow hBs (Nat.le_refl _) hown' hgrow; have hc1 := hv1.cell; have hf1 := hv1.frozen)
    refine ⟨hk2.from _, keepB_of_below hb2 hDw, ⟨⟨_, hv2, ?_, trivial⟩, hB.trans hb2⟩⟩
    rw [List.map_append, List.length_append]
    exact batCells_snoc (pre.map Subtype.val) x.1 ▸ hr2
  case done =>
    rintro Dd ys W hD rfl ⟨⟨v, hv, hrow, _⟩, hB⟩ hK
    have cv := hv.cell
    gi_wp2
    refine ⟨by simp, .inl ⟨_, _, rfl, run_takeDeferred hK, ?_⟩⟩
    refine ⟨_, results_tmp rfl _ _ _, ⟨_, rfl, ?_⟩, hB.trans (belowK_b (w := w) (Nat.le_refl _) _ Dd _ _ (by omega) hK rfl rfl)⟩
    have h2 := ownsRow_putObj hrow (.deferred none) hK rfl
    simpa using h2
  case stop =>
    rintro Dd c pre W hD hpre h hK
    exact h.elim

theorem collectBat_any (gf : Nat) (lb : Array Value) (bs : List Bat) (D : Nat → Prop) (w : World)
    (hseq : ∀ n, 1 ≤ n → SeqStopsK Fence.wide n Try.prog gf lb encB (KeepB D) (fun ys => ys = bs.attach) (fun pre => pre <+: bs.attach) bs.length w) (hDw : ∀ k, D k → k < w.heap.size)
    (eg : ∀ xs w', (callFunc gf xs).run Try.prog w' = .ok (.enter gf xs) w') (hlen : bs.length ≤ 1000000) :
    Calls Try.prog 67 #[.func (.func gf) #[] lb] w fun e w' => (∃ v, e = .returned v ∧ w'.ownsRow w.heap.size 28 2 v bs.length (batCells bs)) ∧ Below w.heap.size w w' := by
  have H_hseq := Lib.hid hseq; clear hseq; have H_hDw := Lib.hid hDw; clear hDw; have H_eg := Lib.hid eg; clear eg
  go_enter Try.func67, Try.ntmps67
  go_wp2_with fail
  refine (appendSeqBat_any gf lb bs D w H_hseq.out H_hDw.out H_eg.out hlen).mono ?_
  rintro e w1 ⟨⟨v, rfl, ho⟩, hb⟩
  have H_ho := Lib.hid ho; clear ho; have H_hb := Lib.hid hb; clear hb
  go_wp2
  go_ret
  exact ⟨⟨v, rfl, H_ho.out⟩, H_hb.out⟩

theorem valuesInt_any (lv : Value) (l : List Int) (w : World) (hl : IsInts w lv l) :
    Calls Try.prog 87 #[lv] w fun e w' => e = .returned (.func (.func 101) #[] #[.pointer (some ⟨w.heap.size, 0, none⟩)]) ∧
      w'.cell? ⟨w.heap.size, 0, none⟩ = some lv ∧ Below w.heap.size w w' ∧ w'.heap.size = w.heap.size + 1 := by
  obtain ⟨a, c, rfl, _⟩ := hl.form
  go_enter Try.func87, Try.ntmps87
  go_wp2
  go_ret
  exact ⟨rfl, by simp, (Below.refl _ _).alloc (Nat.le_refl _) _, by simp⟩

def encI (x : Int) : Array Value := #[.int .i64 x]

theorem valuesInt1_stops (D : Nat → Prop) (lv : Value) (l : List Int) (Bs : Nat) (w0 w : World) (hb : Below w0.heap.size w0 w) (hD : ∀ k, k < w0.heap.size → D k) (hDs : D Bs)
    (hls : Bs < w.heap.size) (hl : IsInts w0 lv l) (c0 : w.cell? ⟨Bs, 0, none⟩ = some lv) (n : Nat) (hn : 1 ≤ n) :
    SeqStopsK Fence.wide n Try.prog 101 #[.pointer (some ⟨Bs, 0, none⟩)] encI (KeepB D) (fun ys => ys = l) (fun pre => pre <+: l) l.length w := by
  intro yl J Jx W hW hJa _ hY hJ0
  obtain ⟨la, lc, rfl, _⟩ := hl.form
  have hll := hl.len
  have d0 := (hW.cell (p := ⟨Bs, 0, none⟩) hls).trans c0
  have hb0 := hb.trans (hW.mono hb.size)
  clear c0
  refine callsIn_of_wp Try.func101 rfl trivial ?_ rfl
  simp only [Try.ntmps101, List.size_toArray, List.length_cons, List.length_nil, Nat.reduceAdd, Nat.reduceSub, Array.replicate_succ, Array.replicate_zero, List.push_toArray, List.append_toArray, List.nil_append, List.cons_append]
  have HY := Lib.hid hY; clear hY
  have HJ := Lib.hid hJa; clear hJa
  gi_wp2
  gi_loopw [7] (fun i wr => ∃ k : Nat, k ≤ l.length ∧ i = .int .i64 k ∧ J (l.take k) wr ∧ KeepB D W wr) (fun i _ => l.length - (intOf i).toNat)
  case atStart => exact ⟨0, Nat.zero_le _, rfl, hJ0, KeepB.refl _ _⟩
  case round =>
    obtain ⟨k, hk, rfl, hJs, hkb⟩ := hrel
    by_cases hlt : k < l.length
    · obtain ⟨bb, bo, rfl, hbb, g0⟩ := hl.at k hlt
      have hbr := hb0.trans ((hkb.below hD).mono (Nat.le_refl _))
      have y0 := (hbr.cell (p := ⟨bb, bo + k, none⟩) hbb).trans g0
      have hnext : l.take (k + 1) = l.take k ++ [l[k]] := List.take_succ_eq_append_getElem hlt
      have hpl : (l.take k).length < l.length := by simp; omega
      obtain ⟨fn, tmps, assign, body, hy, hR⟩ := HY.out _ l[k] wr hJs hpl
      dsimp only [encI] at hy
      clear g0 d0
      have H_hnext := Lib.hid hnext; clear hnext; have H_hpl := Lib.hid hpl; clear hpl; have H_hJs := Lib.hid hJs; clear hJs; have H_hkb := Lib.hid hkb; clear hkb; have H_hbr := Lib.hid hbr; clear hbr; have H_hb0 := Lib.hid hb0; clear hb0; have H_hb := Lib.hid hb; clear hb; have H_hW := Lib.hid hW; clear hW
      gi_wp2
      refine hR.mono ?_
      rintro e W3 (⟨rfl, hJ3, hk3⟩ | ⟨rfl, hJx3⟩)
      · rw [← H_hnext.out] at hJ3
        have hk4 := H_hkb.out.trans hk3
        have H_hJ3 := Lib.hid hJ3; clear hJ3; have H_hk4 := Lib.hid hk4; clear hk4; have H_hk3 := Lib.hid hk3; clear hk3
        gi_wp2
        go_roundw
        case rel => exact ⟨k + 1, by omega, by go_num, H_hJ3.out, H_hk4.out⟩
        case measure => simp [intOf]; omega
      · rw [← H_hnext.out] at hJx3
        have H_hJx3 := Lib.hid hJx3; clear hJx3
        gi_wp2
        refine bodyPost_ret (results_none rfl _ _ _) rfl ?_
        exact ⟨⟨_, rfl⟩, .inr ⟨_, List.take_prefix _ _, H_hJx3.out⟩⟩
    · obtain rfl : k = l.length := by omega
      rw [List.take_length] at hJs
      have H_hJs := Lib.hid hJs; clear hJs; have H_hkb := Lib.hid hkb; clear hkb; have H_hb0 := Lib.hid hb0; clear hb0; have H_hb := Lib.hid hb; clear hb; have H_hW := Lib.hid hW; clear hW
      gi_wp2
      go_end0
      exact ⟨⟨_, rfl⟩, .inl ⟨_, rfl, H_hJs.out⟩⟩

set_option maxRecDepth 100000 in
set_option maxHeartbeats 4000000 in
theorem appendSeqInt_any (gf : Nat) (lb : Array Value) (bs : List Int) (D : Nat → Prop) (w : World)
    (hseq : ∀ n, 1 ≤ n → SeqStopsK Fence.wide n Try.prog gf lb encI (KeepB D) (fun ys => ys = bs) (fun pre => pre <+: bs) bs.length w) (hDw : ∀ k, D k → k < w.heap.size)
    (eg : ∀ xs w', (callFunc gf xs).run Try.prog w' = .ok (.enter gf xs) w') (hlen : bs.length ≤ 1000000) :
    Calls Try.prog 104 #[.slice none 0 0, .func (.func gf) #[] lb] w fun e w' => (∃ v, e = .returned v ∧ w'.ownsRow w.heap.size 3 1 v bs.length (bs.map (Value.int .i64))) ∧ Below w.heap.size w w' := by
  obtain ⟨i0, hi, hz0, hz1, hz2⟩ := info_parts infoInt
  refine (callsIn_wide (n := 10)).1 ?_
  refine callsIn_of_wp_marks Try.func104 rfl trivial ?_ rfl
  simp only [Try.ntmps104, List.size_toArray, List.length_cons, List.length_nil, Nat.reduceAdd, Nat.reduceSub, Array.replicate_succ, Array.replicate_zero, List.push_toArray, List.append_toArray, List.nil_append, List.cons_append]
  gi_wp2
  have b0 := Boxed.new w 42 (.slice none 0 0)
  have hB0 : Below w.heap.size w (w.alloc (.cells #[.slice none 0 0] 42)) := (Below.refl _ w).alloc (Nat.le_refl _) _
  have hsz : (w.alloc (.cells #[.slice none 0 0] 42)).heap.size = w.heap.size + 1 := by simp
  obtain ⟨W0, hW0⟩ : ∃ W0, w.alloc (.cells #[.slice none 0 0] 42) = W0 := ⟨_, rfl⟩
  rw [hW0] at b0 hB0 hsz ⊢
  clear hW0
  refine wpIn_rangeFunc_ownH (F := Fence.wide) (n := 10) rfl (by omega) (gf := gf) (lb := lb) rfl trivial eg
    (hseq (10 - 1) (by omega)) KeepB.trans (keepB_b (fun k hk => by have := hDw k hk; omega)) hB0 (fun _ => rfl)
    (fun pre W => (∃ v, Boxed W w.heap.size 42 v ∧ W.ownsRow w.heap.size 3 1 v pre.length (pre.map (Value.int .i64)) ∧ True) ∧ Below w.heap.size w W)
    (fun c pre W => False)
    (OwnFrom.and (Own.from (holdsRow_own w.heap.size w.heap.size 42 3 1 (fun (pre : List Int) => pre.length) (fun pre => pre.map (Value.int .i64)) (fun _ _ => True)) _) (ownFrom_below (Nat.le_refl _) (by omega)))
    (fun _ _ _ _ _ hs _ _ => hs) ⟨⟨_, b0, World.ownsRow_nil _ _ _ _, trivial⟩, hB0⟩
    (fun x a' _ => a' = { tmps := #[.slice none 0 0, .func (.func gf) #[] lb, .pointer (some ⟨w.heap.size, 0, none⟩), undef, .slice none 0 0, .int .i64 x, .func (.func gf) #[] lb, .int .i64 x, undef, undef, undef, undef, undef], defers := [] })
    (fun _ _ _ _ _ _ hs _ _ => hs)
    ?assign ?body ?done ?stop
  case assign =>
    rintro l pre x W K hi hK
    dsimp only [encI]
    gi_wp2
    exact hK _ _ (KeepsFrom.refl _ _) (KeepB.refl _ _) hi rfl
  case body =>
    rintro l pre x a' W hl ⟨r, hr⟩ ⟨⟨v, hv, hrow, _⟩, hB⟩ rfl hlt
    have cv := hv.cell
    have fv := hv.frozen
    have hBs := hB.size
    have hpl : pre.length ≤ 1000000 := by omega
    gi_wp2_with (gi_at_builtin; refine wpListIn_append_own _ rfl _ _ 42 rfl w.heap.size 3 i0 (.int .i64 0) 1 8 Try.underlying42 hi hz0 hz1 hz2 rfl (by decide) _ _ _ rfl (hrow.alloc _) ⟨W.heap.size, 0, none⟩ 1 1 [.int .i64 x] rfl rfl (cell_one_new _ _ _) (by simp [Value.oneCell']) (by unfold maxLen; omega) (by omega) (by simp; omega) ?_; intro v' w1 hown' hgrow _; obtain ⟨g', cap', rfl⟩ := ownsRow_succ hown'; obtain ⟨hv1, hv2, hr2, hk2, hb2⟩ := hv.appended (by decide) hrow hBs (Nat.le_refl _) hown' hgrow; have hc1 := hv1.cell; have hf1 := hv1.frozen)
    refine ⟨hk2.from _, keepB_of_below hb2 hDw, ⟨⟨_, hv2, ?_, trivial⟩, hB.trans hb2⟩⟩
    rw [List.map_append, List.length_append]
    exact hr2
  case done =>
    rintro Dd ys W hD rfl ⟨⟨v, hv, hrow, _⟩, hB⟩ hK
    have cv := hv.cell
    gi_wp2
    refine ⟨by simp, .inl ⟨_, _, rfl, run_takeDeferred hK, ?_⟩⟩
    refine ⟨_, results_tmp rfl _ _ _, ⟨_, rfl, ?_⟩, hB.trans (belowK_b (w := w) (Nat.le_refl _) _ Dd _ _ (by omega) hK rfl rfl)⟩
    have h2 := ownsRow_putObj hrow (.deferred none) hK rfl
    simpa using h2
  case stop =>
    rintro Dd c pre W hD hpre h hK
    exact h.elim

theorem collectInt_any (gf : Nat) (lb : Array Value) (bs : List Int) (D : Nat → Prop) (w : World)
    (hseq : ∀ n, 1 ≤ n → SeqStopsK Fence.wide n Try.prog gf lb encI (KeepB D) (fun ys => ys = bs) (fun pre => pre <+: bs) bs.length w) (hDw : ∀ k, D k → k < w.heap.size)
    (eg : ∀ xs w', (callFunc gf xs).run Try.prog w' = .ok (.enter gf xs) w') (hlen : bs.length ≤ 1000000) :
    Calls Try.prog 99 #[.func (.func gf) #[] lb] w fun e w' => (∃ v, e = .returned v ∧ w'.ownsRow w.heap.size 3 1 v bs.length (bs.map (Value.int .i64))) ∧ Below w.heap.size w w' := by
  have H_hseq := Lib.hid hseq; clear hseq; have H_hDw := Lib.hid hDw; clear hDw; have H_eg := Lib.hid eg; clear eg
  go_enter Try.func99, Try.ntmps99
  go_wp2_with fail
  refine (appendSeqInt_any gf lb bs D w H_hseq.out H_hDw.out H_eg.out hlen).mono ?_
  rintro e w1 ⟨⟨v, rfl, ho⟩, hb⟩
  have H_ho := Lib.hid ho; clear ho; have H_hb := Lib.hid hb; clear hb
  go_wp2
  go_ret
  exact ⟨⟨v, rfl, H_ho.out⟩, H_hb.out⟩
end Go.Proofs.Ytpkjmnfgpbliaaa
