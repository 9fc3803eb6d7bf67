/-
  (*shop).loses: what it returns, over any iterator that yields valid batches. Conditions: a valid shop in memory; at most eight batches.
-/
import Derived.Test.YtpkjmnfgpbliaaaZIter
namespace Go.Proofs.Ytpkjmnfgpbliaaa
open Go.RowKit Go.Shelf
set_option linter.unusedSimpArgs false
set_option linter.unusedVariables false
attribute [local go_sem] Oper.semAt_some

def stepL (s : Shp) (st : Option (Int × Int)) (b : Bat) : Option (Int × Int) :=
  match st with
  | none => none
  | some (x, bf) => if needs s bf.toNat b < 0 then none else some (x + needs s bf.toNat b * s.rinse, b.c)
/-- What batches lose, one after the other (-1: they are not possible). -/
def lossB (s : Shp) (bf : Int) (l : List Bat) : Int :=
  match l.foldl (stepL s) (some (0, bf)) with
  | none => -1
  | some p => p.1

theorem foldL_none (s : Shp) (l : List Bat) : l.foldl (stepL s) none = none := by
  induction l with
  | nil => rfl
  | cons b t ih => simpa [stepL] using ih

theorem foldL_bd (s : Shp) (hg : Good s) (bf : Int) (hbf : 0 ≤ bf ∧ bf < s.cols.length) (l : List Bat) (hok : ∀ b ∈ l, okBat s b) {x c : Int} (h : l.foldl (stepL s) (some (0, bf)) = some (x, c)) :
    (0 ≤ x ∧ x ≤ l.length * 30000) ∧ 0 ≤ c ∧ c < s.cols.length := by
  have key : ∀ (l : List Bat) (x0 c0 : Int), (∀ b ∈ l, okBat s b) → 0 ≤ x0 → 0 ≤ c0 → c0 < s.cols.length → ∀ x c, l.foldl (stepL s) (some (x0, c0)) = some (x, c) → (0 ≤ x ∧ x ≤ x0 + l.length * 30000) ∧ 0 ≤ c ∧ c < s.cols.length := by
    intro l
    induction l with
    | nil => intro x0 c0 _ h1 h2 h3 x c h; simp at h; obtain ⟨rfl, rfl⟩ := h; exact ⟨⟨h1, by simp⟩, h2, h3⟩
    | cons b t ih =>
      intro x0 c0 hok h1 h2 h3 x c h
      simp only [List.foldl_cons, stepL] at h
      by_cases hn : needs s c0.toNat b < 0
      · rw [if_pos hn, foldL_none] at h; cases h
      · rw [if_neg hn] at h
        have hr := needs_range s c0.toNat b
        obtain ⟨⟨q1, q2⟩, _⟩ := hok b (by simp)
        have m0 : 0 ≤ needs s c0.toNat b * s.rinse := Int.mul_nonneg (by omega) hg.r0
        have m1 : needs s c0.toNat b * s.rinse ≤ 3 * 10000 := Int.mul_le_mul (by omega) hg.r1 hg.r0 (by omega)
        have := ih _ _ (fun b hb => hok b (by simp [hb])) (by omega) q1 q2 x c h
        refine ⟨⟨this.1.1, ?_⟩, this.2⟩
        have := this.1.2
        simp only [List.length_cons]
        omega
  have := key l 0 bf hok (by omega) hbf.1 hbf.2 x c h
  exact ⟨⟨this.1.1, by omega⟩, this.2⟩

theorem boxed_keep {X Y : World} {row : Option Nat} {B : Nat} {t : TypeId} {v : Value} (h : Boxed X B t v) (hg : X.grownBy Y row) (hr : ∀ r, row = some r → ∃ o : Obj, X.heap[r]? = some o ∧ o.isCells = false) : Boxed Y B t v :=
  h.kept hg (fun e' => by obtain ⟨o, ho, hc⟩ := hr B e'.symm; rw [show X.heap[B]? = _ from h] at ho; cases ho; cases hc)
theorem block_keep {X Y : World} {row : Option Nat} {B : Nat} {c : Array Value} {t : TypeId} {f : Nat × Nat} (h : X.heap[B]? = some (.cells c t f)) (hg : X.grownBy Y row) (hr : ∀ r, row = some r → ∃ o : Obj, X.heap[r]? = some o ∧ o.isCells = false) : Y.heap[B]? = some (.cells c t f) :=
  (hg.block B (Array.getElem?_eq_some_iff.1 h).1 (fun e' => by obtain ⟨o, ho, hc⟩ := hr B e'.symm; rw [h] at ho; cases ho; cases hc)).trans h
theorem keepsOthers_of_below {W W' : World} (h : Below W.heap.size W W') : KeepsOthers W W' :=
  ⟨h.size, fun k o hk _ => (h.block k (Array.getElem?_eq_some_iff.1 hk).1).trans hk⟩
theorem cells_of_block2 {W : World} {B : Nat} {v0 v1 : Value} {t : TypeId} (h : W.heap[B]? = some (.cells #[v0, v1] t (0, 0))) : W.cell? ⟨B, 0, none⟩ = some v0 ∧ W.cell? ⟨B, 1, none⟩ = some v1 := by
  simp [World.cell?, h]

theorem boxed_below {W W' : World} {B : Nat} {t : TypeId} {v : Value} (h : Boxed W B t v) (hb : Below W.heap.size W W') : Boxed W' B t v := (hb.block B h.lt).trans h

theorem keepB_of_below {D : Nat → Prop} {W W' : World} {n : Nat} (h : Below n W W') (hD : ∀ k, D k → k < n) : KeepB D W W' := ⟨h.os, h.tape, h.output, h.size, fun k hk => h.block k (hD k hk)⟩

theorem run_result_cell {W : World} {b : Nat} {v : Value} {t0 t1 t2 t3 t4 t5 : Value} {rest : List Value} (h : W.cell? ⟨b, 0, none⟩ = some v) :
    (results Try.f62 (List.toArray (t0 :: t1 :: t2 :: t3 :: t4 :: t5 :: .pointer (some ⟨b, 0, none⟩) :: rest))).run Try.prog W = .ok v W := by
  simp [results, Try.results62, go_sem, h]

set_option maxRecDepth 100000 in
set_option maxHeartbeats 4000000 in
theorem loses_any (s : Shp) (P M : Nat) (sl lv : Value) (bf : Nat) (gf : Nat) (lb : Array Value) (bs : List Bat) (D : Nat → Prop) (w : World)
    (hseq : ∀ n, 1 ≤ n → SeqStopsK Fence.wide n Try.prog gf lb encB (KeepB D) (fun ys => ys = bs.attach) (fun pre => pre <+: bs.attach) bs.length w) (hDw : ∀ k, D k → k < w.heap.size)
    (eg : ∀ xs w', (callFunc gf xs).run Try.prog w' = .ok (.enter gf xs) w')
    (hS : ShopAt w P M sl lv s) (hc : IsCols w sl s.cols) (hg : Good s) (hbf : bf < s.cols.length) (hok : ∀ b ∈ bs, okBat s b) (hlen : bs.length ≤ 8) :
    Calls Try.prog 62 #[.pointer (some ⟨P, 0, none⟩), .int .i64 bf, .func (.func gf) #[] lb] w fun e w' => e = .returned (.int .i64 (lossB s bf bs)) ∧ Below w.heap.size w w' := by
  refine (callsIn_wide (n := 10)).1 ?_
  refine callsIn_of_wp_marks Try.func62 rfl trivial ?_ rfl
  simp only [Try.ntmps62, List.size_toArray, List.length_cons, List.length_nil, Nat.reduceAdd, Nat.reduceSub, Array.replicate_succ, Array.replicate_zero, List.push_toArray, List.append_toArray, List.nil_append, List.cons_append]
  gi_wp2
  have b0 := ((Boxed.new w 101 (.pointer (some ⟨P, 0, none⟩))).alloc (.cells #[.int .i64 bf] 3)).alloc (.cells #[.int .i64 0] 3)
  have b1 := (Boxed.new (w.alloc (.cells #[.pointer (some ⟨P, 0, none⟩)] 101)) 3 (.int .i64 bf)).alloc (.cells #[.int .i64 0] 3)
  have b2 := Boxed.new ((w.alloc (.cells #[.pointer (some ⟨P, 0, none⟩)] 101)).alloc (.cells #[.int .i64 bf] 3)) 3 (.int .i64 0)
  simp only [World.size_alloc] at b1 b2
  have hB0 : Below w.heap.size w (((w.alloc (.cells #[.pointer (some ⟨P, 0, none⟩)] 101)).alloc (.cells #[.int .i64 bf] 3)).alloc (.cells #[.int .i64 0] 3)) := (((Below.refl _ w).alloc (Nat.le_refl _) _).alloc (by simp) _).alloc (by simp; omega) _
  have hsz : (((w.alloc (.cells #[.pointer (some ⟨P, 0, none⟩)] 101)).alloc (.cells #[.int .i64 bf] 3)).alloc (.cells #[.int .i64 0] 3)).heap.size = w.heap.size + 3 := by simp
  obtain ⟨W0, hW0⟩ : ∃ W0, ((w.alloc (.cells #[.pointer (some ⟨P, 0, none⟩)] 101)).alloc (.cells #[.int .i64 bf] 3)).alloc (.cells #[.int .i64 0] 3) = W0 := ⟨_, rfl⟩
  rw [hW0] at b0 b1 b2 hB0 hsz ⊢
  clear hW0
  refine wpIn_rangeFunc_ownH (F := Fence.wide) (n := 10) rfl (by omega) (gf := gf) (lb := lb) rfl trivial eg
    (hseq (10 - 1) (by omega)) KeepB.trans (keepB_b (fun k hk => by have := hDw k hk; omega)) hB0 (fun _ => rfl)
    (fun pre W => (∃ x c, (pre.map Subtype.val).foldl (stepL s) (some (0, (bf : Int))) = some (x, c) ∧ Boxed W (w.heap.size + 1 + 1) 3 (.int .i64 x) ∧ Boxed W (w.heap.size + 1) 3 (.int .i64 c)) ∧ Boxed W w.heap.size 101 (.pointer (some ⟨P, 0, none⟩)) ∧ Below w.heap.size w W)
    (fun c pre W => c = .ret ∧ (pre.map Subtype.val).foldl (stepL s) (some (0, (bf : Int))) = none ∧ Boxed W (w.heap.size + 1 + 1) 3 (.int .i64 (-1)) ∧ Below w.heap.size w W)
    ?hI ?hIx ⟨⟨0, bf, rfl, b2, b1⟩, b0, hB0⟩
    (fun x a' W => ∃ Bx, w.heap.size + 1 + 1 < Bx ∧ W.heap[Bx]? = some (.cells #[.int .i64 x.1.c, .int .i64 x.1.g] 28 (0, 0)) ∧ a' = { tmps := #[.pointer (some ⟨P, 0, none⟩), .int .i64 bf, .func (.func gf) #[] lb, .pointer (some ⟨w.heap.size, 0, none⟩), .pointer (some ⟨w.heap.size + 1, 0, none⟩), undef, .pointer (some ⟨w.heap.size + 1 + 1, 0, none⟩), .pointer (some ⟨Bx, 0, none⟩), undef, .func (.func gf) #[] lb, .agg #[.int .i64 x.1.c, .int .i64 x.1.g], undef, undef, undef, undef, undef, undef, undef, undef, undef, undef, undef, undef, undef, undef, undef, undef, undef, undef], defers := [] })
    (fun x a' _ X Y row hs hg hr => by obtain ⟨Bx, h1, h2, h3⟩ := hs; exact ⟨Bx, h1, block_keep h2 hg (fun r e => (hr r e).2), h3⟩)
    ?assign ?body ?done ?stop
  case hI =>
    rintro pre X Y row ⟨⟨x, c, h1, h2, h3⟩, h4, h5⟩ hg hr
    have hr' := fun r e => (hr r e).2
    exact ⟨⟨x, c, h1, boxed_keep h2 hg hr', boxed_keep h3 hg hr'⟩, boxed_keep h4 hg hr', h5.grown hg h5.size (fun k e => by have := (hr k e).1; omega)⟩
  case hIx =>
    rintro c pre X Y row ⟨h0, h1, h2, h5⟩ hg hr
    have hr' := fun r e => (hr r e).2
    exact ⟨h0, h1, boxed_keep h2 hg hr', h5.grown hg h5.size (fun k e => by have := (hr k e).1; omega)⟩
  case assign =>
    rintro l pre x W K hi hK
    dsimp only [encB]
    gi_wp2
    obtain ⟨⟨y, c, h1, h2, h3⟩, h4, h5⟩ := hi
    exact hK _ _ ((KeepsOthers.alloc _ _).from _) (KeepB.of_below ((Below.refl _ W).alloc (Nat.le_refl _) _) (fun k hk => Nat.lt_of_lt_of_le (hDw k hk) h5.size)) ⟨⟨y, c, h1, h2.alloc _, h3.alloc _⟩, h4.alloc _, h5.alloc h5.size _⟩ ⟨W.heap.size, h2.lt, heap_new W _, rfl⟩
  case body =>
    rintro l pre x a' W hl ⟨r, hr⟩ ⟨⟨y, c, hf, bL, bC⟩, bP, hB⟩ ⟨Bx, hBx, bX, rfl⟩ hlt
    have h1' : 1 ≤ 10 - 1 - 1 := by omega
    have cL := bL.cell
    have fL := bL.frozen
    have cC := bC.cell
    have fC := bC.frozen
    have cP := bP.cell
    obtain ⟨cX0, cX1⟩ := cells_of_block2 bX
    have hSW := hS.below hB
    have hcW := hc.below hB
    have hmem : ∀ b ∈ pre.map Subtype.val, b ∈ bs := fun b hb => by obtain ⟨z, _, rfl⟩ := List.mem_map.1 hb; exact z.2
    obtain ⟨⟨q1, q2⟩, q3, q4⟩ := hok x.1 x.2
    obtain ⟨⟨y0, y1⟩, c0, c1⟩ := foldL_bd s hg bf ⟨by omega, by omega⟩ (pre.map Subtype.val) (fun b hb => hok b (hmem b hb)) hf
    have hpl : (pre.map Subtype.val).length ≤ 8 := by simp; omega
    have hstep : ((pre ++ [x]).map Subtype.val).foldl (stepL s) (some (0, (bf : Int))) = stepL s (some (y, c)) x.1 := by rw [List.map_append, List.foldl_append, hf]; rfl
    obtain ⟨⟨xc, xg⟩, hx⟩ := x
    obtain ⟨bc, rfl⟩ := Int.eq_ofNat_of_zero_le q1
    obtain ⟨cc, rfl⟩ := Int.eq_ofNat_of_zero_le c0
    dsimp only at q2 q3 q4 hstep cX0 cX1 bX
    have hn := needs_range s cc ⟨bc, xg⟩
    have hr0 := hg.r0
    have hr1 := hg.r1
    simp only [stepL, Int.toNat_natCast] at hstep
    have hq2 : bc < s.cols.length := by omega
    have hcl : cc < s.cols.length := by omega
    have H_hmem := Lib.hid hmem; clear hmem; have H_hf := Lib.hid hf; clear hf; have H_hstep := Lib.hid hstep; clear hstep; have H_hn := Lib.hid hn; clear hn; have H_bL := Lib.hid bL; clear bL; have H_bC := Lib.hid bC; clear bC; have H_bP := Lib.hid bP; clear bP; have H_bX := Lib.hid bX; clear bX; have H_hB := Lib.hid hB; clear hB; have H_hseq := Lib.hid hseq; clear hseq; have H_hDw := Lib.hid hDw; clear hDw; have H_hl := Lib.hid hl; clear hl; have H_hr := Lib.hid hr; clear hr; have H_hc := Lib.hid hc; clear hc; have H_hS := Lib.hid hS; clear hS; have H_hok := Lib.hid hok; clear hok
    have HC : Calls Try.prog 58 #[.pointer (some ⟨P, 0, none⟩), .int .i64 cc, .agg #[.int .i64 bc, .int .i64 xg]] W fun e w1 => e = .returned (.int .i64 (needs s cc ⟨bc, xg⟩)) ∧
        w1.cell? ⟨w.heap.size + 1 + 1, 0, none⟩ = some (.int .i64 y) ∧ w1.frozen? ⟨w.heap.size + 1 + 1, 0, none⟩ = false ∧ w1.cell? ⟨w.heap.size + 1, 0, none⟩ = some (.int .i64 cc) ∧ w1.frozen? ⟨w.heap.size + 1, 0, none⟩ = false ∧
        w1.cell? ⟨w.heap.size, 0, none⟩ = some (.pointer (some ⟨P, 0, none⟩)) ∧ w1.cell? ⟨Bx, 0, none⟩ = some (.int .i64 bc) ∧ w1.cell? ⟨P, 3, none⟩ = some (.int .i64 s.rinse) ∧ Hid (Below W.heap.size W w1) :=
      (rinses_any s P M sl lv cc bc xg W hSW hcW hg hcl hq2 q3 q4).mono fun e w1 ⟨h1, h2⟩ => ⟨h1, (h2.cell H_bL.out.lt).trans cL, (h2.frozen H_bL.out.lt).trans fL, (h2.cell H_bC.out.lt).trans cC, (h2.frozen H_bC.out.lt).trans fC,
        (h2.cell H_bP.out.lt).trans cP, (h2.cell (lt_of_cell cX0)).trans cX0, (h2.cell hSW.lt).trans hSW.c3, h2⟩
    generalize needs s cc ⟨bc, xg⟩ = n at *
    have m0 : 0 ≤ n → 0 ≤ n * s.rinse := fun h => Int.mul_nonneg h hr0
    have m1 : 0 ≤ n → n * s.rinse ≤ 3 * 10000 := fun h => Int.mul_le_mul H_hn.out.2 hr1 hr0 (by omega)
    have hsz1 : w.heap.size + 1 + 1 < Bx := hBx
    by_cases hn0 : n < 0
    · rw [if_pos hn0] at H_hstep
      clear m0 m1
      gi_wp2_with (refine ⟨trivial, ?_⟩; gi_at_call 58; refine (CallsIn.inRound l (callsIn_wide.2 HC)).mono ?_; rintro e w1 ⟨rfl, k1, k2, k3, k4, k5, k6, k7, k8⟩)
      exact ⟨((keepsOthers_of_below k8.out).trans (KeepsOthers.setCell _ _ _)).from _, rfl, H_hstep, (boxed_below H_bL.out k8.out).set _, (H_hB.out.trans (k8.out.mono H_hB.out.size)).setCell (p := ⟨w.heap.size + 1 + 1, 0, none⟩) (by simp; omega) _⟩
    · rw [if_neg hn0] at H_hstep
      have m0 := m0 (by omega)
      have m1 := m1 (by omega)
      gi_wp2_with (refine ⟨trivial, ?_⟩; gi_at_call 58; refine (CallsIn.inRound l (callsIn_wide.2 HC)).mono ?_; rintro e w1 ⟨rfl, k1, k2, k3, k4, k5, k6, k7, k8⟩)
      have hmx : Try.prog.follows .mixedOrders = true := by kernel_rfl
      have wr1 : IntKind.i64.wrap (n * s.rinse) = n * s.rinse := IntWalk.i64_in _ (by omega)
      have wr2 : IntKind.i64.wrap (y + n * s.rinse) = y + n * s.rinse := IntWalk.i64_in _ (by omega)
      have hfin : ∀ W', W' = ((w1.setCell ⟨w.heap.size + 1 + 1, 0, none⟩ (.int .i64 (y + n * s.rinse))).setCell ⟨w.heap.size + 1, 0, none⟩ (.int .i64 bc)).drew → ∀ a, ownPostG W0.heap.size (KeepB D)
          (fun pre W => (∃ x c, (pre.map Subtype.val).foldl (stepL s) (some (0, (bf : Int))) = some (x, c) ∧ Boxed W (w.heap.size + 1 + 1) 3 (.int .i64 x) ∧ Boxed W (w.heap.size + 1) 3 (.int .i64 c)) ∧ Boxed W w.heap.size 101 (.pointer (some ⟨P, 0, none⟩)) ∧ Below w.heap.size w W)
          (fun c pre W => c = .ret ∧ (pre.map Subtype.val).foldl (stepL s) (some (0, (bf : Int))) = none ∧ Boxed W (w.heap.size + 1 + 1) 3 (.int .i64 (-1)) ∧ Below w.heap.size w W)
          (pre ++ [⟨⟨bc, xg⟩, hx⟩]) W .normal a W' := by
        rintro W' rfl a
        have hbe : Below w.heap.size W ((w1.setCell ⟨w.heap.size + 1 + 1, 0, none⟩ (.int .i64 (y + n * s.rinse))).setCell ⟨w.heap.size + 1, 0, none⟩ (.int .i64 bc)).drew :=
          (((k8.out.mono H_hB.out.size).setCell (p := ⟨w.heap.size + 1 + 1, 0, none⟩) (by simp; omega) _).setCell (p := ⟨w.heap.size + 1, 0, none⟩) (by simp) _).drew
        refine ⟨((((keepsOthers_of_below k8.out).trans (KeepsOthers.setCell _ _ _)).trans (KeepsOthers.setCell _ _ _)).trans (KeepsOthers.drew _)).from _, keepB_of_below hbe H_hDw.out, ⟨_, _, H_hstep, ?_, ?_⟩, ?_, H_hB.out.trans hbe⟩
        · exact ((boxed_below H_bL.out k8.out).set _).other (by omega) _
        · exact ((boxed_below H_bC.out k8.out).other (by omega) _).set _
        · exact ((boxed_below H_bP.out k8.out).other (by omega) _).other (by omega) _
      have HF := Lib.hid hfin; clear hfin
      gi_region_with_o (fail)
      all_goals (gi_wp2; exact HF.out _ rfl _)
  case done =>
    rintro Dd ys W hD rfl ⟨⟨y, c, hf, bL, bC⟩, bP, hB⟩ hK
    have cL := bL.cell
    have fL := bL.frozen
    have hfin : lossB s bf bs = y := by
      rw [lossB]
      rw [show bs.attach.map Subtype.val = bs from by simp] at hf
      rw [hf]
    have H_hf := Lib.hid hf; clear hf; have H_bL := Lib.hid bL; clear bL; have H_bC := Lib.hid bC; clear bC; have H_bP := Lib.hid bP; clear bP; have H_hB := Lib.hid hB; clear hB; have H_hfin := Lib.hid hfin; clear hfin; have H_hseq := Lib.hid hseq; clear hseq; have H_hDw := Lib.hid hDw; clear hDw; have H_hc := Lib.hid hc; clear hc; have H_hS := Lib.hid hS; clear hS; have H_hok := Lib.hid hok; clear hok
    gi_wp2
    refine ⟨by simp, .inl ⟨_, _, rfl, run_takeDeferred (KeepsOthers.setCell _ _ _ |>.same Dd _ hK rfl), ?_⟩⟩
    have hK2 : (W.setCell ⟨w.heap.size + 1 + 1, 0, none⟩ (.int .i64 y)).heap[Dd]? = some (.deferred (some [])) := (KeepsOthers.setCell _ _ _).same Dd _ hK rfl
    have bL2 := boxed_keep (H_bL.out.set (.int .i64 y)) (grownBy_putObj' _ Dd (.deferred none)) (fun r e => by cases e; exact ⟨_, hK2, rfl⟩)
    refine ⟨_, run_result_cell bL2.cell, by rw [H_hfin.out], ?_⟩
    exact (H_hB.out.setCell (p := ⟨w.heap.size + 1 + 1, 0, none⟩) (by simp; omega) _).trans (belowK_b (w := w) (Nat.le_refl _) _ Dd _ _ (by omega) hK2 rfl rfl)
  case stop =>
    rintro Dd c pre W hD hpre ⟨rfl, hf, bL, hB⟩ hK
    have cL := bL.cell
    have hfin : lossB s bf bs = -1 := by
      obtain ⟨t, ht⟩ := hpre
      have h2 : bs = pre.map Subtype.val ++ t.map Subtype.val := by rw [← List.map_append, ht]; simp
      rw [lossB, h2, List.foldl_append, hf, foldL_none]
    have H_hf := Lib.hid hf; clear hf; have H_bL := Lib.hid bL; clear bL; have H_hB := Lib.hid hB; clear hB; have H_hfin := Lib.hid hfin; clear hfin; have H_hseq := Lib.hid hseq; clear hseq; have H_hDw := Lib.hid hDw; clear hDw; have H_hc := Lib.hid hc; clear hc; have H_hS := Lib.hid hS; clear hS; have H_hok := Lib.hid hok; clear hok; have H_hpre := Lib.hid hpre; clear hpre
    gi_wp2
    refine ⟨by simp, .inl ⟨_, _, rfl, run_takeDeferred hK, ?_⟩⟩
    have bL2 := boxed_keep H_bL.out (grownBy_putObj' _ Dd (.deferred none)) (fun r e => by cases e; exact ⟨_, hK, rfl⟩)
    refine ⟨_, run_result_cell bL2.cell, by rw [H_hfin.out], ?_⟩
    exact H_hB.out.trans (belowK_b (w := w) (Nat.le_refl _) _ Dd _ _ (by omega) hK rfl rfl)
end Go.Proofs.Ytpkjmnfgpbliaaa
