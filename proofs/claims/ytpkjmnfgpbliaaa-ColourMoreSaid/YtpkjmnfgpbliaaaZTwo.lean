/-
  colour.Two: what it returns. Conditions: the values read as a shop and batches.
-/
import Derived.Test.YtpkjmnfgpbliaaaZBest
namespace Go.Proofs.Ytpkjmnfgpbliaaa
open Go.RowKit Go.Shelf Go.Sort
set_option linter.unusedSimpArgs false
set_option linter.unusedVariables false

theorem ints2c {w : World} {B : Nat} {a b : Int} (h0 : w.cell? ⟨B, 0, none⟩ = some (.int .i64 a)) (h1 : w.cell? ⟨B, 1, none⟩ = some (.int .i64 b)) (hlt : B < w.heap.size) : IsInts w (.slice (some ⟨B, 0, none⟩) 2 2) [a, b] := by
  refine ⟨by simp, some ⟨B, 0, none⟩, 2, by simp, rfl, .inr ⟨B, 0, rfl, hlt, fun j hj => ?_⟩⟩
  have : j = 0 ∨ j = 1 := by simp at hj; omega
  rcases this with rfl | rfl
  · refine ⟨[.int .i64 a], rfl, rfl, fun i hi => ?_⟩
    have : i = 0 := by simpa using hi
    subst this; simpa using h0
  · refine ⟨[.int .i64 b], rfl, rfl, fun i hi => ?_⟩
    have : i = 0 := by simpa using hi
    subst this; simpa using h1
/-- What one sharing loses. -/
def shareN (s : Shp) (l : List Bat) (a b : Int) (set : Nat) : Int := (planV s l a set).lost + (planV s l b (2 ^ l.length - 1 - set)).lost
def twoL (s : Shp) (l : List Bat) (a b : Int) (k : Nat) : Nat × Int := (List.range k).foldl (fun p set => if shareN s l a b set < p.2 then (set, shareN s l a b set) else p) (0, 1099511627776)
theorem twoL_succ (s : Shp) (l : List Bat) (a b : Int) (k : Nat) : twoL s l a b (k + 1) = if shareN s l a b k < (twoL s l a b k).2 then (k, shareN s l a b k) else twoL s l a b k := by
  unfold twoL; rw [List.range_succ, List.foldl_append]; rfl
theorem twoL_lt (s : Shp) (l : List Bat) (a b : Int) (k : Nat) : ((twoL s l a b k).1 < k ∨ (twoL s l a b k).1 = 0) ∧ (twoL s l a b k).2 ≤ 1099511627776 ∧ ((twoL s l a b k).2 < 1099511627776 → (twoL s l a b k).2 = shareN s l a b (twoL s l a b k).1) := by
  induction k with
  | zero => simp [twoL]
  | succ k ih =>
    rw [twoL_succ]
    split
    · exact ⟨.inl (by simp), by omega, fun _ => rfl⟩
    · exact ⟨by omega, ih.2⟩
/-- What Two returns. -/
def twoR (s : Shp) (a b : Int) (l : List Bat) : (List Int × List Int) × Int × Int :=
  if ¬ openErr s l [a, b] = 0 then (([], []), 0, openErr s l [a, b]) else
    if 1099511627776 ≤ (twoL s l a b (2 ^ l.length)).2 then (([], []), 0, 9) else
      ((orderV s l a (twoL s l a b (2 ^ l.length)).1, orderV s l b (2 ^ l.length - 1 - (twoL s l a b (2 ^ l.length)).1)), (twoL s l a b (2 ^ l.length)).2, 0)
theorem ownsRow_form {w : World} {b : Nat} {T : TypeId} {k n : Nat} {v : Value} {xs : List Value} (h : w.ownsRow b T k v n xs) : ∃ a c, v = .slice a n c := by
  rcases h.2 with ⟨rfl, rfl⟩ | ⟨g, cap, cur, rfl, _⟩
  · exact ⟨_, _, rfl⟩
  · exact ⟨_, _, rfl⟩
set_option maxRecDepth 100000 in
set_option maxHeartbeats 4000000 in
theorem Two_any (v lv : Value) (s : Shp) (a b : Int) (l : List Bat) (w : World) (h : IsShop w v s) (hl : IsBats w lv l) :
    Calls Try.prog 31 #[v, .agg #[.int .i64 a, .int .i64 b], lv] w fun e w' => (∃ v1 v2, e = .returned (.tuple #[.agg #[v1, v2], .int .i64 (twoR s a b l).2.1, .int .i64 (twoR s a b l).2.2]) ∧ w'.ownsRow w.heap.size 3 1 v1 (twoR s a b l).1.1.length ((twoR s a b l).1.1.map (Value.int .i64)) ∧ w'.ownsRow w.heap.size 3 1 v2 (twoR s a b l).1.2.length ((twoR s a b l).1.2.map (Value.int .i64))) ∧ Below w.heap.size w w' := by
  obtain ⟨sl, rfl, hc⟩ := h
  obtain ⟨sa, c, rfl, _⟩ := hc.form
  obtain ⟨la, lc, hlv, _⟩ := hl.form
  subst hlv
  obtain ⟨W0, eW, x0, x1, x2, x3, hbW, hsz⟩ := box4 w (.slice sa s.cols.length c) (.int .i64 s.keep.lo) (.int .i64 s.keep.hi) (.int .i64 s.rinse) 26
  obtain ⟨W1, eW1, y0, y1, hb1, hs1⟩ := box2 W0 (.int .i64 a) (.int .i64 b) 41
  obtain ⟨W2, eW2, z0, z1, hb2, hs2⟩ := box2 W1 (.slice none 0 0) (.slice none 0 0) 52
  have g0 : W2.frozen? ⟨W1.heap.size, 0, none⟩ = false := by rw [← eW2]; simp
  have g1 : W2.frozen? ⟨W1.heap.size, 1, none⟩ = false := by rw [← eW2]; simp
  have hb12 := hb1.trans (hb2.mono hb1.size)
  have hbw := hbW.trans (hb12.mono hbW.size)
  obtain ⟨x0, x1, x2, x3, _⟩ := keep4 hb12 (by omega) x0 x1 x2 x3
  have y0 := (hb2.cell (p := ⟨W0.heap.size, 0, none⟩) (by show W0.heap.size < _; omega)).trans y0
  have y1 := (hb2.cell (p := ⟨W0.heap.size, 1, none⟩) (by show W0.heap.size < _; omega)).trans y1
  have hc2 := hc.below hbw
  have hl2 := hl.below hbw
  have hI := ints2c y0 y1 (by omega)
  have hop := open_any _ _ _ s l [a, b] (.slice sa s.cols.length c) W2.drew (hc2.below (Below.refl _ _).drew) rfl (hl2.below (Below.refl _ _).drew) (hI.below (Below.refl _ _).drew)
  have hlt12 : W0.heap.size < W2.heap.size := by omega
  have hlt2 : W1.heap.size < W2.heap.size := by omega
  have hlt02 : w.heap.size < W2.heap.size := by omega
  have hSx : ∀ X, Below W2.heap.size W2.drew X → X.cell? ⟨w.heap.size, 0, none⟩ = some (.slice sa s.cols.length c) ∧ X.cell? ⟨w.heap.size, 1, none⟩ = some (.int .i64 s.keep.lo) ∧ X.cell? ⟨w.heap.size, 2, none⟩ = some (.int .i64 s.keep.hi) ∧ X.cell? ⟨w.heap.size, 3, none⟩ = some (.int .i64 s.rinse) := fun X hX =>
    ⟨(hX.cell (p := ⟨w.heap.size, 0, none⟩) hlt02).trans x0, (hX.cell (p := ⟨w.heap.size, 1, none⟩) hlt02).trans x1, (hX.cell (p := ⟨w.heap.size, 2, none⟩) hlt02).trans x2, (hX.cell (p := ⟨w.heap.size, 3, none⟩) hlt02).trans x3⟩
  have hSx0 := hSx W2.drew (Below.refl _ _)
  have hszw : w.heap.size ≤ W1.heap.size := by omega
  have hne01 : ¬ W0.heap.size = W1.heap.size := by omega
  have hw0 : w.heap.size ≤ W0.heap.size := by omega
  by_cases he : openErr s l [a, b] = 0
  · obtain ⟨hg, ho, hl7, hbe⟩ := openErr_zero he
    have ho := (outB_two _ _ _ _).1 ho
    have hok := okBat_all hbe
    obtain ⟨⟨h1, h2⟩, h3, h4⟩ := ho
    obtain ⟨a, rfl⟩ := Int.eq_ofNat_of_zero_le h1
    obtain ⟨b, rfl⟩ := Int.eq_ofNat_of_zero_le h3
    have ha : a < s.cols.length := by omega
    have hb : b < s.cols.length := by omega
    have hr : twoR s a b l = if 1099511627776 ≤ (twoL s l a b (2 ^ l.length)).2 then (([], []), 0, 9) else
      ((orderV s l a (twoL s l a b (2 ^ l.length)).1, orderV s l b (2 ^ l.length - 1 - (twoL s l a b (2 ^ l.length)).1)), (twoL s l a b (2 ^ l.length)).2, 0) := by simp [twoR, he]
    have hpw := pow_len hl7
    have hwp := wrap_pow hl7
    have hall : ((2 : Int) ^ l.length - 1) = ((2 ^ l.length - 1 : Nat) : Int) := by
      rw [Int.ofNat_sub hpw.1]; push_cast; rfl
    have hw1 : IntKind.i64.wrap ((2 : Int) ^ l.length - 1) = ((2 ^ l.length - 1 : Nat) : Int) := by rw [hall]; exact i64_small _ (by omega)
    have hop' : Calls Try.prog 55 #[.agg #[.slice sa s.cols.length c, .int .i64 s.keep.lo, .int .i64 s.keep.hi, .int .i64 s.rinse], .slice la l.length lc, .slice (some ⟨W0.heap.size, 0, none⟩) 2 2] W2.drew fun e w' => ∃ P M, e = .returned (.tuple #[.pointer (some ⟨P, 0, none⟩), .int .i64 0]) ∧ Below W2.heap.size W2.drew w' ∧ ShopSt s l P M (.slice sa s.cols.length c) (.slice la l.length lc) W2.drew w' 0 := by
      refine hop.mono ?_
      rintro e w' ⟨hbo, ⟨h, _⟩ | ⟨_, P, M, rfl, hS, hM, hMle⟩⟩
      · exact absurd he h
      · exact ⟨P, M, rfl, hbo, ShopSt.opened hbo (hc2.below (Below.refl _ _).drew) (hl2.below (Below.refl _ _).drew) hMle hS hM⟩
    have H_hb1 := Lib.hid hb1; clear hb1; have H_hs1 := Lib.hid hs1; clear hs1; have H_hb2 := Lib.hid hb2; clear hb2; have H_hs2 := Lib.hid hs2; clear hs2; have H_hb12 := Lib.hid hb12; clear hb12; have H_hbw := Lib.hid hbw; clear hbw; have H_hc2 := Lib.hid hc2; clear hc2; have H_hl2 := Lib.hid hl2; clear hl2; have H_hI := Lib.hid hI; clear hI; have H_hc := Lib.hid hc; clear hc; have H_hl := Lib.hid hl; clear hl; have H_hop := Lib.hid hop; clear hop; have H_hop' := Lib.hid hop'; clear hop'; have H_hr := Lib.hid hr; clear hr; have H_hall := Lib.hid hall; clear hall; have H_hbW := Lib.hid hbW; clear hbW; have H_hsz := Lib.hid hsz; clear hsz; have H_hSx := Lib.hid hSx; clear hSx; have H_hbe := Lib.hid hbe; clear hbe; have H_he := Lib.hid he; clear he; have H_hg := Lib.hid hg; clear hg; have H_hok := Lib.hid hok; clear hok
    go_enter Try.func31, Try.ntmps31
    go_wp2_with fail
    go_region_held3 (fun X => X.cell? ⟨w.heap.size, 0, none⟩ = some (.slice sa s.cols.length c) ∧ X.cell? ⟨w.heap.size, 1, none⟩ = some (.int .i64 s.keep.lo) ∧ X.cell? ⟨w.heap.size, 2, none⟩ = some (.int .i64 s.keep.hi) ∧ X.cell? ⟨w.heap.size, 3, none⟩ = some (.int .i64 s.rinse)) (first | assumption | exact H_hSx.out _ hbo) (first | (go_at_call 55; refine H_hop'.out.mono ?_; rintro e Wo ⟨P, M, rfl, hbo, hS0⟩))
    simp only [Exit.then]
    first | apply_assumption | (rename_i aK; apply aK)
    have y0 := (hbo.cell (p := ⟨W0.heap.size, 0, none⟩) hlt12).trans y0
    have y1 := (hbo.cell (p := ⟨W0.heap.size, 1, none⟩) hlt12).trans y1
    have z0 := (hbo.cell (p := ⟨W1.heap.size, 0, none⟩) hlt2).trans z0
    have z1 := (hbo.cell (p := ⟨W1.heap.size, 1, none⟩) hlt2).trans z1
    have g0 := (hbo.frozen (p := ⟨W1.heap.size, 0, none⟩) hlt2).trans g0
    have g1 := (hbo.frozen (p := ⟨W1.heap.size, 1, none⟩) hlt2).trans g1
    have hso := hbo.size
    have hMo := hS0.memo.lt
    have hMle := hS0.hM
    have hMle : W2.heap.size ≤ M := hMle
    have hallP : ∀ x : Nat, x ≤ 2 ^ l.length - 1 → bits .andNot .i64 ((2 ^ l.length - 1 : Nat) : Int) (x : Int) = ((2 ^ l.length - 1 - x : Nat) : Int) := fun x hx => all_but l.length x (by omega) (by omega)
    have hsum : ∀ k, 0 ≤ shareN s l a b k ∧ shareN s l a b k ≤ 2 * 1099511627776 := fun k => by
      have h1 := (planF_ok s H_hg.out l k a k).1
      have h2 := (planF_ok s H_hg.out l (2 ^ l.length - 1 - k) b (2 ^ l.length - 1 - k)).1
      have e1 : planF s l k a k = planV s l a k := rfl
      have e2 : planF s l (2 ^ l.length - 1 - k) b (2 ^ l.length - 1 - k) = planV s l b (2 ^ l.length - 1 - k) := rfl
      rw [e1] at h1; rw [e2] at h2
      unfold shareN
      omega
    have hNall : 2 ^ l.length = (2 ^ l.length - 1) + 1 := by omega
    have hplan := fun (lf bf n : Nat) (w : World) (h1 : lf ≤ 2 ^ l.length - 1) => plan_any s H_hg.out l hl7 H_hok.out P M (.slice sa s.cols.length c) (.slice la l.length lc) W2.drew lf bf n w (by omega)
    have hord := fun (lf bf n : Nat) (w : World) (h1 : lf ≤ 2 ^ l.length - 1) => order_any s H_hg.out l hl7 H_hok.out P M (.slice sa s.cols.length c) (.slice la l.length lc) W2.drew lf bf n w (by omega)
    have hshr : ∀ k, shareN s l a b k = (planV s l a k).lost + (planV s l b (2 ^ l.length - 1 - k)).lost := fun _ => rfl
    have hr := H_hr.out
    clear H_hr
    rw [hNall] at hr
    have hall127 : 2 ^ l.length - 1 ≤ 127 := by omega
    generalize hAll : 2 ^ l.length - 1 = all at *
    have H_hbo := Lib.hid hbo; clear hbo; have H_hS0 := Lib.hid hS0; clear hS0; have H_hallP := Lib.hid hallP; clear hallP; have H_hsum := Lib.hid hsum; clear hsum; have H_hplan := Lib.hid hplan; clear hplan; have H_hord := Lib.hid hord; clear hord; have H_hshr := Lib.hid hshr; clear hshr; have H_hr := Lib.hid hr; clear hr; have H_hAll := Lib.hid hAll; clear hAll; have H_hNall := Lib.hid hNall; clear hNall
    go_wp2_with fail
    go_loopw [31, 11, 7] (fun i f n wr => ∃ k m : Nat, k ≤ all + 1 ∧ i = .int .i64 k ∧ f = .int .i64 (twoL s l a b k).1 ∧ n = .int .i64 (twoL s l a b k).2 ∧ ShopSt s l P M (.slice sa s.cols.length c) (.slice la l.length lc) W2.drew wr m ∧ m ≤ k * 4194304 ∧ ButM M Wo wr) (fun i _ _ _ => all + 1 - (intOf i).toNat)
    case atStart => exact ⟨0, 0, by omega, rfl, rfl, rfl, H_hS0.out, by omega, ButM.refl _ _⟩
    case round =>
      obtain ⟨k, m, hk, rfl, rfl, rfl, hSr, hm, hkr⟩ := hrel
      have hsz1 : W0.heap.size < Wo.heap.size := by omega
      have y0 := (hkr.cell (b := W0.heap.size) (o := 0) hsz1 (by omega)).trans y0
      have y1 := (hkr.cell (b := W0.heap.size) (o := 1) hsz1 (by omega)).trans y1
      have z0 := (hkr.cell (b := W1.heap.size) (o := 0) (by omega) (by omega)).trans z0
      have z1 := (hkr.cell (b := W1.heap.size) (o := 1) (by omega) (by omega)).trans z1
      have g0 := (hkr.frozen (b := W1.heap.size) (o := 0) (by omega) (by omega)).trans g0
      have g1 := (hkr.frozen (b := W1.heap.size) (o := 1) (by omega) (by omega)).trans g1
      have hd : ButM M wr wr.drew := ⟨rfl, rfl, rfl, Nat.le_refl _, fun _ _ => rfl⟩
      have hszr := hkr.size
      have hSy : ∀ X, ButM M wr X → X.cell? ⟨W0.heap.size, 0, none⟩ = some (.int .i64 a) ∧ X.cell? ⟨W0.heap.size, 1, none⟩ = some (.int .i64 b) := fun X hX => ⟨(hX.cell (by omega) (by omega)).trans y0, (hX.cell (by omega) (by omega)).trans y1⟩
      have hSy0 := hSy wr.drew hd
      by_cases hlt : k < all + 1
      · have hA := H_hplan.out k a m wr.drew (by omega) ha (by have := cost_le k; omega) (hSr.keep hd (hSr.memo.same rfl))
        have hB := fun X (hX : ButM M wr X) (hm2 : Memo X M (fun bf lf => planV s l bf lf.toNat) (m + cost k)) => H_hplan.out (all - k) b (m + cost k) X (by omega) hb (by have := cost_le k; have := cost_le (all - k); omega) (hSr.keep hX hm2)
        simp only [vPln] at hA hB
        have hfl := fieldPln0
        have hand := H_hallP.out k (by omega)
        have hsk := H_hsum.out k
        have hskr := H_hshr.out k
        generalize planV s l a k = pa at *
        generalize planV s l b (all - k) = pb at *
        have hw4 : IntKind.i64.wrap (pa.lost + pb.lost) = pa.lost + pb.lost := by rw [← hskr]; exact IntWalk.i64_in _ ⟨by omega, by omega⟩
        have H_hSr := Lib.hid hSr; clear hSr; have H_hm := Lib.hid hm; clear hm; have H_hkr := Lib.hid hkr; clear hkr; have H_hd := Lib.hid hd; clear hd; have H_hA := Lib.hid hA; clear hA; have H_hB := Lib.hid hB; clear hB; have H_hSy := Lib.hid hSy; clear hSy; have H_hsk := Lib.hid hsk; clear hsk; have H_hskr := Lib.hid hskr; clear hskr
        go_wp2_with fail
        go_region_held3 (fun X => X.cell? ⟨W0.heap.size, 0, none⟩ = some (.int .i64 a) ∧ X.cell? ⟨W0.heap.size, 1, none⟩ = some (.int .i64 b)) (first | exact H_hSy.out _ H_hd.out | exact H_hSy.out _ (H_hd.out.trans hkA) | exact H_hSy.out _ ((H_hd.out.trans hkA).trans hkB)) (first | (go_at_call 71; refine (H_hB.out _ (H_hd.out.trans hkA) hmA).mono ?_; rintro e WB ⟨rfl, hkB, hmB⟩) | (go_at_call 71; refine H_hA.out.mono ?_; rintro e WA ⟨rfl, hkA, hmA⟩))
        rename_i hHeld
        clear hHeld
        simp only [Exit.then]
        first | apply_assumption | (rename_i aK; apply aK)
        have htw1 := twoL_succ s l a b k
        rw [H_hskr.out] at htw1
        have hkAB := (H_hd.out.trans hkA).trans hkB
        have hSB := H_hSr.out.keep hkAB hmB
        have hcA := cost_le k
        have hcB := cost_le (all - k)
        have hm1 : m + cost k + cost (all - k) ≤ (k + 1) * 4194304 := by have := H_hm.out; omega
        have hkB' := H_hkr.out.trans hkAB
        generalize htk : twoL s l a b k = tk at *
        by_cases hc : pa.lost + pb.lost < tk.2
        · rw [if_pos hc] at htw1
          have H_hkA := Lib.hid hkA; clear hkA; have H_hmA := Lib.hid hmA; clear hmA; have H_hkB := Lib.hid hkB; clear hkB; have H_hmB := Lib.hid hmB; clear hmB; have H_htw1 := Lib.hid htw1; clear htw1; have H_hkAB := Lib.hid hkAB; clear hkAB; have H_hSB := Lib.hid hSB; clear hSB; have H_hcA := Lib.hid hcA; clear hcA; have H_hcB := Lib.hid hcB; clear hcB; have H_hm1 := Lib.hid hm1; clear hm1; have H_hkB' := Lib.hid hkB'; clear hkB'; have H_htk := Lib.hid htk; clear htk
          go_wp2_with fail
          exact ⟨⟨k + 1, _, by omega, by simp, by rw [H_htw1.out], by rw [H_htw1.out], H_hSB.out, H_hm1.out, H_hkB'.out⟩, by simp [intOf]; omega⟩
        · rw [if_neg hc] at htw1
          have H_hkA := Lib.hid hkA; clear hkA; have H_hmA := Lib.hid hmA; clear hmA; have H_hkB := Lib.hid hkB; clear hkB; have H_hmB := Lib.hid hmB; clear hmB; have H_htw1 := Lib.hid htw1; clear htw1; have H_hkAB := Lib.hid hkAB; clear hkAB; have H_hSB := Lib.hid hSB; clear hSB; have H_hcA := Lib.hid hcA; clear hcA; have H_hcB := Lib.hid hcB; clear hcB; have H_hm1 := Lib.hid hm1; clear hm1; have H_hkB' := Lib.hid hkB'; clear hkB'; have H_htk := Lib.hid htk; clear htk
          go_wp2_with fail
          exact ⟨⟨k + 1, _, by omega, by simp, by rw [H_htw1.out], by rw [H_htw1.out], H_hSB.out, H_hm1.out, H_hkB'.out⟩, by simp [intOf]; omega⟩
      · have hke : k = all + 1 := by omega
        subst hke
        by_cases hlo : 1099511627776 ≤ (twoL s l a b (all + 1)).2
        · have H_hSr := Lib.hid hSr; clear hSr; have H_hm := Lib.hid hm; clear hm; have H_hkr := Lib.hid hkr; clear hkr; have H_hd := Lib.hid hd; clear hd; have H_hSy := Lib.hid hSy; clear hSy
          go_wp2_with fail
          have r0 : ((wr.setCell ⟨W1.heap.size, 0, none⟩ (.slice none 0 0)).setCell ⟨W1.heap.size, 1, none⟩ (.slice none 0 0)).cell? ⟨W1.heap.size, 0, none⟩ = some (.slice none 0 0) := (World.cell?_setCell_other _ _ _ _ (by simp)).trans (setS z0)
          have r1 : ((wr.setCell ⟨W1.heap.size, 0, none⟩ (.slice none 0 0)).setCell ⟨W1.heap.size, 1, none⟩ (.slice none 0 0)).cell? ⟨W1.heap.size, 1, none⟩ = some (.slice none 0 0) := setS ((World.cell?_setCell_other _ _ _ _ (by simp)).trans z1)
          have hr := H_hr.out
          rw [if_pos hlo] at hr
          refine bodyPost_ret (v := .tuple #[.agg #[.slice none 0 0, .slice none 0 0], .int .i64 0, .int .i64 9]) (by simp [results, Try.results31, go_sem, r0, r1]) rfl ⟨⟨.slice none 0 0, .slice none 0 0, by rw [hr], by rw [hr]; exact World.ownsRow_nil _ _ _ _, by rw [hr]; exact World.ownsRow_nil _ _ _ _⟩, ?_⟩
          exact (((H_hbw.out.drew).trans ((H_hbo.out.mono H_hbw.out.size).trans (H_hkr.out.belowN (by omega) (by omega)))).setCell (p := ⟨W1.heap.size, 0, none⟩) hszw _).setCell (p := ⟨W1.heap.size, 1, none⟩) hszw _
        · have htl := twoL_lt s l a b (all + 1)
          have hshare := htl.2.2 (by omega)
          have hfl : (twoL s l a b (all + 1)).1 ≤ all := by rcases htl.1 with h | h <;> omega
          have hr := H_hr.out
          rw [if_neg (by omega)] at hr
          simp only [Nat.add_sub_cancel] at hr
          clear H_hr
          clear htl
          generalize hf1 : (twoL s l a b (all + 1)).1 = f at *
          generalize hf2 : (twoL s l a b (all + 1)).2 = lost at *
          have hx := H_hshr.out f
          have h1 := (planF_ok s H_hg.out l f a f).1
          have h2 := (planF_ok s H_hg.out l (all - f) b (all - f)).1
          have e1 : planF s l f a f = planV s l a f := rfl
          have e2 : planF s l (all - f) b (all - f) = planV s l b (all - f) := rfl
          rw [e1] at h1; rw [e2] at h2
          have hcA := cost_le f
          have hcB := cost_le (all - f)
          have hOA : Calls Try.prog 72 #[.pointer (some ⟨P, 0, none⟩), .agg #[.int .i64 a, .int .i64 f]] wr.drew fun e w' => ∃ oa oc, e = .returned (.slice oa (orderV s l a f).length oc) ∧ w'.ownsRow (wr.heap.size + 1) 3 1 (.slice oa (orderV s l a f).length oc) (orderV s l a f).length ((orderV s l a f).map (Value.int .i64)) ∧ ButM M wr w' ∧ Memo w' M (fun bf lf => planV s l bf lf.toNat) (m + 2 * cost f) := by
            refine (H_hord.out f a m wr.drew hfl ha (by omega) (hSr.keep hd (hSr.memo.same rfl)) (by omega)).mono ?_
            rintro e w' ⟨⟨v, rfl, hown⟩, hk1, hm1⟩
            obtain ⟨oa, oc, rfl⟩ := ownsRow_form hown
            exact ⟨oa, oc, rfl, hown, hd.trans hk1, hm1⟩
          have hOB : ∀ X, ButM M wr X → Memo X M (fun bf lf => planV s l bf lf.toNat) (m + 2 * cost f) → Calls Try.prog 72 #[.pointer (some ⟨P, 0, none⟩), .agg #[.int .i64 b, .int .i64 ((all - f : Nat) : Int)]] X fun e w' => ∃ oa oc, e = .returned (.slice oa (orderV s l b (all - f)).length oc) ∧ w'.ownsRow (X.heap.size + 1) 3 1 (.slice oa (orderV s l b (all - f)).length oc) (orderV s l b (all - f)).length ((orderV s l b (all - f)).map (Value.int .i64)) ∧ ButM M X w' := by
            intro X hX hm2
            refine (H_hord.out (all - f) b (m + 2 * cost f) X (by omega) hb (by omega) (hSr.keep hX hm2) (by omega)).mono ?_
            rintro e w' ⟨⟨v, rfl, hown⟩, hk1, hm1⟩
            obtain ⟨oa, oc, rfl⟩ := ownsRow_form hown
            exact ⟨oa, oc, rfl, hown, hk1⟩
          have hand := H_hallP.out f (by omega)
          have hSz : ∀ (X : World) (u1 u2 : Value), (X.cell? ⟨W0.heap.size, 0, none⟩ = some (.int .i64 a) ∧ X.cell? ⟨W0.heap.size, 1, none⟩ = some (.int .i64 b)) → ((X.setCell ⟨W1.heap.size, 0, none⟩ u1).setCell ⟨W1.heap.size, 1, none⟩ u2).cell? ⟨W0.heap.size, 0, none⟩ = some (.int .i64 a) ∧ ((X.setCell ⟨W1.heap.size, 0, none⟩ u1).setCell ⟨W1.heap.size, 1, none⟩ u2).cell? ⟨W0.heap.size, 1, none⟩ = some (.int .i64 b) := fun X u1 u2 h =>
            ⟨setO (fun e => hne01 e.symm) (setO (fun e => hne01 e.symm) h.1), setO (fun e => hne01 e.symm) (setO (fun e => hne01 e.symm) h.2)⟩
          have hfz : ∀ X, ButM M wr X → X.cell? ⟨W1.heap.size, 0, none⟩ = some (.slice none 0 0) ∧ X.cell? ⟨W1.heap.size, 1, none⟩ = some (.slice none 0 0) ∧ X.frozen? ⟨W1.heap.size, 0, none⟩ = false ∧ X.frozen? ⟨W1.heap.size, 1, none⟩ = false := fun X hX =>
            ⟨(hX.cell (by omega) (by omega)).trans z0, (hX.cell (by omega) (by omega)).trans z1, (hX.frozen (by omega) (by omega)).trans g0, (hX.frozen (by omega) (by omega)).trans g1⟩
          generalize hqa : orderV s l a f = qa at *
          generalize hqb : orderV s l b (all - f) = qb at *
          have H_hr := Lib.hid hr; clear hr; have H_hf1 := Lib.hid hf1; clear hf1; have H_hf2 := Lib.hid hf2; clear hf2; have H_hSr := Lib.hid hSr; clear hSr; have H_hm := Lib.hid hm; clear hm; have H_hkr := Lib.hid hkr; clear hkr; have H_hd := Lib.hid hd; clear hd; have H_hSy := Lib.hid hSy; clear hSy; have H_hshare := Lib.hid hshare; clear hshare; have H_hx := Lib.hid hx; clear hx; have H_h1 := Lib.hid h1; clear h1; have H_h2 := Lib.hid h2; clear h2; have H_hcA := Lib.hid hcA; clear hcA; have H_hcB := Lib.hid hcB; clear hcB; have H_hOA := Lib.hid hOA; clear hOA; have H_hOB := Lib.hid hOB; clear hOB; have H_hSz := Lib.hid hSz; clear hSz; have H_hfz := Lib.hid hfz; clear hfz; have H_hqa := Lib.hid hqa; clear hqa; have H_hqb := Lib.hid hqb; clear hqb; have H_e1 := Lib.hid e1; clear e1; have H_e2 := Lib.hid e2; clear e2
          go_wp2_with fail
          have hS00 := H_hSy.out _ H_hd.out
          go_region_held3 (fun X => X.cell? ⟨W0.heap.size, 0, none⟩ = some (.int .i64 a) ∧ X.cell? ⟨W0.heap.size, 1, none⟩ = some (.int .i64 b)) (first | exact H_hSy.out _ H_hd.out | exact H_hSy.out _ hkA | exact H_hSy.out _ (hkA.trans hkB) | exact H_hSz.out _ _ _ (H_hSy.out _ (hkA.trans hkB))) (first | (go_at_call 72; refine (H_hOB.out _ hkA hmA).mono ?_; rintro e WB ⟨oa2, oc2, rfl, hownB, hkB⟩; obtain ⟨p0, p1, p2, p3⟩ := H_hfz.out _ (hkA.trans hkB)) | (go_at_call 72; refine H_hOA.out.mono ?_; rintro e WA ⟨oa, oc, rfl, hownA, hkA, hmA⟩))
          rename_i hHeld
          clear hHeld
          simp only [Exit.then]
          first | apply_assumption | (rename_i aK; apply aK)
          have hownA' := hownA.kept hkB.grown (by
            cases hb : (Value.slice oa qa.length oc).ownBlock with
            | none => exact .inl rfl
            | some g => exact .inr fun e => by cases e; have := (hownA.lt M hb).1; omega)
          have hkAB := hkA.trans hkB
          have hszA := hkA.size
          have hset : ∀ k, ¬ k = W1.heap.size → ((WB.setCell ⟨W1.heap.size, 0, none⟩ (.slice oa qa.length oc)).setCell ⟨W1.heap.size, 1, none⟩ (.slice oa2 qb.length oc2)).heap[k]? = WB.heap[k]? := fun k hk => (Below.heap_setCell _ _ _ _ (by simpa using hk)).trans (Below.heap_setCell _ _ _ _ (by simpa using hk))
          have hgs : World.grownBy WB ((WB.setCell ⟨W1.heap.size, 0, none⟩ (.slice oa qa.length oc)).setCell ⟨W1.heap.size, 1, none⟩ (.slice oa2 qb.length oc2)) (some W1.heap.size) := ⟨rfl, rfl, rfl, by simp, fun k hk hn => hset k (fun e => hn (by rw [e]))⟩
          have hoA := hownA'.kept hgs (by
            cases hb : (Value.slice oa qa.length oc).ownBlock with
            | none => exact .inl rfl
            | some g => exact .inr fun e => by cases e; have := (hownA'.lt _ hb).1; omega)
          have hoB := hownB.kept hgs (by
            cases hb : (Value.slice oa2 qb.length oc2).ownBlock with
            | none => exact .inl rfl
            | some g => exact .inr fun e => by cases e; have := (hownB.lt _ hb).1; omega)
          have r0 : ((WB.setCell ⟨W1.heap.size, 0, none⟩ (.slice oa qa.length oc)).setCell ⟨W1.heap.size, 1, none⟩ (.slice oa2 qb.length oc2)).cell? ⟨W1.heap.size, 0, none⟩ = some (.slice oa qa.length oc) := (World.cell?_setCell_other _ _ _ _ (by simp)).trans (setS p0)
          have r1 : ((WB.setCell ⟨W1.heap.size, 0, none⟩ (.slice oa qa.length oc)).setCell ⟨W1.heap.size, 1, none⟩ (.slice oa2 qb.length oc2)).cell? ⟨W1.heap.size, 1, none⟩ = some (.slice oa2 qb.length oc2) := setS ((World.cell?_setCell_other _ _ _ _ (by simp)).trans p1)
          have hbB := (H_hbw.out.drew).trans ((H_hbo.out.mono H_hbw.out.size).trans (((H_hkr.out.trans hkAB)).belowN (by omega) (by omega)))
          have hbF := (hbB.setCell (p := ⟨W1.heap.size, 0, none⟩) hszw (.slice oa qa.length oc)).setCell (p := ⟨W1.heap.size, 1, none⟩) hszw (.slice oa2 qb.length oc2)
          have hbs : w.heap.size ≤ wr.heap.size + 1 ∧ w.heap.size ≤ WA.heap.size + 1 := by omega
          have H_hownA := Lib.hid hownA; clear hownA; have H_hownA' := Lib.hid hownA'; clear hownA'; have H_hownB := Lib.hid hownB; clear hownB; have H_hoA := Lib.hid hoA; clear hoA; have H_hoB := Lib.hid hoB; clear hoB; have H_hkA := Lib.hid hkA; clear hkA; have H_hkB := Lib.hid hkB; clear hkB; have H_hkAB := Lib.hid hkAB; clear hkAB; have H_hset := Lib.hid hset; clear hset; have H_hgs := Lib.hid hgs; clear hgs; have H_hbB := Lib.hid hbB; clear hbB; have H_hbF := Lib.hid hbF; clear hbF
          go_wp2_with fail
          have hr := H_hr.out
          refine bodyPost_ret (v := .tuple #[.agg #[.slice oa qa.length oc, .slice oa2 qb.length oc2], .int .i64 lost, .int .i64 0]) (by simp [results, Try.results31, go_sem, r0, r1]) rfl ⟨⟨.slice oa qa.length oc, .slice oa2 qb.length oc2, by rw [hr], by rw [hr]; exact ownsRow_base H_hoA.out hbs.1, by rw [hr]; exact ownsRow_base H_hoB.out hbs.2⟩, H_hbF.out⟩
  · have hop' : Calls Try.prog 55 #[.agg #[.slice sa s.cols.length c, .int .i64 s.keep.lo, .int .i64 s.keep.hi, .int .i64 s.rinse], .slice la l.length lc, .slice (some ⟨W0.heap.size, 0, none⟩) 2 2] W2.drew fun e w' => e = .returned (.tuple #[.pointer none, .int .i64 (openErr s l [a, b])]) ∧ Below W2.heap.size W2.drew w' := by
      refine hop.mono ?_
      rintro e w' ⟨hbo, ⟨h, rfl⟩ | ⟨h, _⟩⟩
      · exact ⟨rfl, hbo⟩
      · exact absurd h he
    have hr : twoR s a b l = (([], []), 0, openErr s l [a, b]) := by simp [twoR, he]
    generalize openErr s l [a, b] = x at *
    have hx : (x != 0) = true := by simpa using he
    have H_hb1 := Lib.hid hb1; clear hb1; have H_hs1 := Lib.hid hs1; clear hs1; have H_hb2 := Lib.hid hb2; clear hb2; have H_hs2 := Lib.hid hs2; clear hs2; have H_hb12 := Lib.hid hb12; clear hb12; have H_hbw := Lib.hid hbw; clear hbw; have H_hc2 := Lib.hid hc2; clear hc2; have H_hl2 := Lib.hid hl2; clear hl2; have H_hI := Lib.hid hI; clear hI; have H_hc := Lib.hid hc; clear hc; have H_hl := Lib.hid hl; clear hl; have H_hop := Lib.hid hop; clear hop; have H_hop' := Lib.hid hop'; clear hop'; have H_hr := Lib.hid hr; clear hr; have H_hbW := Lib.hid hbW; clear hbW; have H_hsz := Lib.hid hsz; clear hsz; have H_hSx := Lib.hid hSx; clear hSx; have H_he := Lib.hid he; clear he
    go_enter Try.func31, Try.ntmps31
    go_wp2_with fail
    go_region_held3 (fun X => X.cell? ⟨w.heap.size, 0, none⟩ = some (.slice sa s.cols.length c) ∧ X.cell? ⟨w.heap.size, 1, none⟩ = some (.int .i64 s.keep.lo) ∧ X.cell? ⟨w.heap.size, 2, none⟩ = some (.int .i64 s.keep.hi) ∧ X.cell? ⟨w.heap.size, 3, none⟩ = some (.int .i64 s.rinse)) (first | assumption | exact H_hSx.out _ hbo) (first | (go_at_call 55; refine H_hop'.out.mono ?_; rintro e Wo ⟨rfl, hbo⟩))
    all_goals
      have z0 := (hbo.cell (p := ⟨W1.heap.size, 0, none⟩) hlt2).trans z0
      have z1 := (hbo.cell (p := ⟨W1.heap.size, 1, none⟩) hlt2).trans z1
      have g0 := (hbo.frozen (p := ⟨W1.heap.size, 0, none⟩) hlt2).trans g0
      have g1 := (hbo.frozen (p := ⟨W1.heap.size, 1, none⟩) hlt2).trans g1
      have H_hbo := Lib.hid hbo; clear hbo
      go_wp2_with fail
      have r0 : ((Wo.setCell ⟨W1.heap.size, 0, none⟩ (.slice none 0 0)).setCell ⟨W1.heap.size, 1, none⟩ (.slice none 0 0)).cell? ⟨W1.heap.size, 0, none⟩ = some (.slice none 0 0) := (World.cell?_setCell_other _ _ _ _ (by simp)).trans (setS z0)
      have r1 : ((Wo.setCell ⟨W1.heap.size, 0, none⟩ (.slice none 0 0)).setCell ⟨W1.heap.size, 1, none⟩ (.slice none 0 0)).cell? ⟨W1.heap.size, 1, none⟩ = some (.slice none 0 0) := setS ((World.cell?_setCell_other _ _ _ _ (by simp)).trans z1)
      refine bodyPost_ret (v := .tuple #[.agg #[.slice none 0 0, .slice none 0 0], .int .i64 0, .int .i64 x]) (by simp [results, Try.results31, go_sem, r0, r1]) rfl ⟨⟨.slice none 0 0, .slice none 0 0, by rw [H_hr.out], by rw [H_hr.out]; exact World.ownsRow_nil _ _ _ _, by rw [H_hr.out]; exact World.ownsRow_nil _ _ _ _⟩, ?_⟩
      exact (((H_hbw.out.drew).trans (H_hbo.out.mono H_hbw.out.size)).setCell (p := ⟨W1.heap.size, 0, none⟩) hszw _).setCell (p := ⟨W1.heap.size, 1, none⟩) hszw _
end Go.Proofs.Ytpkjmnfgpbliaaa
