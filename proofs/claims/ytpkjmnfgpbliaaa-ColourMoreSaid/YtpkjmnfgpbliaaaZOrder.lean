/-
  (*shop).order: what it returns. Conditions: a valid shop in memory, valid batches, a map of right plans; the plan is possible.
-/
import Derived.Test.YtpkjmnfgpbliaaaZPlan2
namespace Go.Proofs.Ytpkjmnfgpbliaaa
open Go.RowKit Go.Shelf Go.Sort
set_option linter.unusedSimpArgs false
set_option linter.unusedVariables false

/-- What comes next, where a plan is possible. -/
theorem plan_next (s : Shp) (hg : Good s) (l : List Bat) (bf : Int) (lf : Nat) (hz : ¬ lf = 0) (h : (planV s l bf lf).lost < 1099511627776) :
    ∃ i : Nat, (planV s l bf lf).next = i ∧ i < l.length ∧ lf.testBit i = true ∧ (planV s l (l.getD i default).c (lf - 2 ^ i)).lost < 1099511627776 := by
  have hpl := planV_eq s l bf lf
  rw [if_neg hz] at hpl
  have key : ∀ (p : Pln), p = (List.range l.length).foldl (planStep s l (planV s l) bf lf) ⟨1099511627776, -2⟩ → p = ⟨1099511627776, -2⟩ ∨ ∃ i : Nat, i < l.length ∧ lf.testBit i = true ∧ ∃ n : Int, 0 ≤ n ∧ p = ⟨n + (planV s l (l.getD i default).c (lf - 2 ^ i)).lost, i⟩ := by
    rintro p rfl
    refine foldl_ok (fun p : Pln => p = ⟨1099511627776, -2⟩ ∨ ∃ i : Nat, i < l.length ∧ lf.testBit i = true ∧ ∃ n : Int, 0 ≤ n ∧ p = ⟨n + (planV s l (l.getD i default).c (lf - 2 ^ i)).lost, i⟩) _ _ _ (.inl rfl) fun p i hi hp => ?_
    unfold planStep
    split
    · rename_i ht
      split
      · exact hp
      · rename_i hn
        unfold lesserP
        split
        · exact .inr ⟨i, List.mem_range.1 hi, ht, _, Int.mul_nonneg (by omega) hg.r0, rfl⟩
        · exact hp
    · exact hp
  rw [← hpl] at key
  rcases key _ rfl with h1 | ⟨i, hi, ht, n, hn, h1⟩
  · rw [h1] at h; exact absurd h (by decide)
  · refine ⟨i, by rw [h1], hi, ht, ?_⟩
    rw [h1] at h
    dsimp only at h
    omega

theorem ButM.grown {M : Nat} {w w' : World} (h : ButM M w w') : World.grownBy w w' (some M) :=
  ⟨h.os, h.tape, h.output, h.size, fun k hk hn => h.block k ⟨hk, fun e => hn (by rw [e])⟩⟩
theorem ButM.of_grown {M : Nat} {w w' w'' : World} {row : Option Nat} (h : ButM M w w') (hg : World.grownBy w' w'' row) (hr : ∀ k, row = some k → w.heap.size ≤ k) : ButM M w w'' :=
  ⟨hg.os.trans h.os, hg.tape.trans h.tape, hg.output.trans h.output, Nat.le_trans h.size hg.size, fun k hk => (hg.block k (Nat.lt_of_lt_of_le hk.1 h.size) (fun e => by have := hr k e.symm; omega)).trans (h.block k hk)⟩
def leftOf (w : World) (b : Nat) : Nat := match w.cell? ⟨b, 1, none⟩ with | some (.int _ n) => n.toNat | _ => 0
theorem fieldPln (a b : Int) (w : World) : (Instr.field 127 (.agg #[.int .i64 a, .int .i64 b]) 1).run Try.prog w = .ok (.int .i64 b) w := by kernel_rfl
theorem fieldPln0 (a b : Int) (w : World) : (Instr.field 127 (.agg #[.int .i64 a, .int .i64 b]) 0).run Try.prog w = .ok (.int .i64 a) w := by kernel_rfl
/-- The rounds of the order. -/
structure OrdLoop (s : Shp) (l : List Bat) (P M : Nat) (sl lv : Value) (w0 w : World) (n N : Nat) (all : List Int) (wr : World) (v : Value) (bf lf : Nat) (pre : List Int) (m : Nat) : Prop where
  hS : ShopSt s l P M sl lv w0 wr m
  hm : m + 2 * cost lf ≤ N
  hk : ButM M w wr
  lt : w.heap.size < wr.heap.size
  ha : all = pre ++ orderV s l bf lf
  hlf : lf < 2 ^ l.length
  hbf : bf < s.cols.length
  hlo : (planV s l bf lf).lost < 1099511627776
  hpre : pre.length ≤ 200 - lf
  own : wr.ownsRow (w.heap.size + 1) 3 1 v pre.length (pre.map (Value.int .i64))
  c0 : wr.cell? ⟨w.heap.size, 0, none⟩ = some (.int .i64 bf)
  c1 : wr.cell? ⟨w.heap.size, 1, none⟩ = some (.int .i64 lf)
  f0 : wr.frozen? ⟨w.heap.size, 0, none⟩ = false
  f1 : wr.frozen? ⟨w.heap.size, 1, none⟩ = false
set_option maxRecDepth 100000 in
set_option maxHeartbeats 4000000 in
theorem order_any (s : Shp) (hg : Good s) (l : List Bat) (hl7 : l.length ≤ 7) (hok : ∀ j (hj : j < l.length), okBat s l[j]) (P M : Nat) (sl : Value) (lv : Value) (w0 : World) (lf bf n : Nat) (w : World) (hlf : lf < 2 ^ l.length) (hbf : bf < s.cols.length) (hn : n + 2 * cost lf ≤ 1000000000) (hp : ShopSt s l P M sl lv w0 w n) (hlo : (planV s l bf lf).lost < 1099511627776) :
    Calls Try.prog 72 #[.pointer (some ⟨P, 0, none⟩), .agg #[.int .i64 bf, .int .i64 lf]] w fun e w' => (∃ v, e = .returned v ∧ w'.ownsRow (w.heap.size + 1) 3 1 v (orderV s l bf lf).length ((orderV s l bf lf).map (Value.int .i64))) ∧ ButM M w w' ∧ Memo w' M (fun bf lf => planV s l bf lf.toNat) (n + 2 * cost lf) := by
  obtain ⟨i0, hi, hz0, hz1, hz2⟩ := info_parts infoInt
  obtain ⟨la, lc, hlv, _⟩ := hp.hl.form
  subst hlv
  obtain ⟨W0, eW0, x0, x1, hb0, hs0⟩ := box2 w (.int .i64 bf) (.int .i64 lf) 125
  have f0 : W0.frozen? ⟨w.heap.size, 0, none⟩ = false := by rw [← eW0]; simp
  have f1 : W0.frozen? ⟨w.heap.size, 1, none⟩ = false := by rw [← eW0]; simp
  have hM0 := hp.memo.same (hb0.block M hp.memo.lt)
  have hp0 := hp.keep (ButM.of_below hb0) hM0
  have hlf7 : lf < 128 := Nat.lt_of_lt_of_le hlf (Nat.le_trans (Nat.pow_le_pow_right (by decide) hl7) (by decide))
  have hL0 : OrdLoop s l P M sl (.slice la l.length lc) w0 w n (n + 2 * cost lf) (orderV s l bf lf) W0 (.slice none 0 0) bf lf [] n := ⟨hp0, Nat.le_refl _, ButM.of_below hb0, by omega, rfl, hlf, hbf, hlo, by simp, World.ownsRow_nil _ _ _ _, x0, x1, f0, f1⟩
  have hMl := hp.memo.lt
  have H_hb0 := Lib.hid hb0; clear hb0; have H_hs0 := Lib.hid hs0; clear hs0; have H_hM0 := Lib.hid hM0; clear hM0; have H_hp0 := Lib.hid hp0; clear hp0; have H_hg := Lib.hid hg; clear hg; have H_hp := Lib.hid hp; clear hp; have H_hL0 := Lib.hid hL0; clear hL0; have H_hok := Lib.hid hok; clear hok; have H_hlo := Lib.hid hlo; clear hlo
  go_enter Try.func72, Try.ntmps72
  go_wp2_with fail
  go_loopw [4] (fun v wr => ∃ bf' lf' pre m, OrdLoop s l P M sl (.slice la l.length lc) w0 w n (n + 2 * cost lf) (orderV s l bf lf) wr v bf' lf' pre m) (fun _ wr => leftOf wr w.heap.size)
  case atStart => exact ⟨bf, lf, [], n, H_hL0.out⟩
  case round =>
    obtain ⟨bf', lf', pre, m, hL⟩ := hrel
    have x0 := hL.c0
    have x1 := hL.c1
    have f0 := hL.f0
    have f1 := hL.f1
    by_cases hz : lf' = 0
    · have hz' : ((lf' : Int) != 0) = false := by simp [hz]
      have hend : orderV s l bf lf = pre := by rw [hL.ha, hz]; simp [orderV, orderF]
      have H_hL := Lib.hid hL; clear hL; have H_hend := Lib.hid hend; clear hend
      go_wp2_with fail
      refine bodyPost_ret (by simp [results, Try.results72, go_sem]) rfl ⟨⟨u4, rfl, ?_⟩, H_hL.out.hk, H_hL.out.hS.memo.mono (by have := H_hL.out.hm; omega)⟩
      rw [H_hend.out]
      exact H_hL.out.own
    · have hz' : ((lf' : Int) != 0) = true := by simp [bne]; omega
      obtain ⟨j, hnx, hj, htb, hlo'⟩ := plan_next s H_hg.out l bf' lf' hz hL.hlo
      have hplan := plan_any s H_hg.out l hl7 H_hok.out P M sl (.slice la l.length lc) w0 lf' bf' m wr hL.hlf hL.hbf (by have := hL.hm; omega) hL.hS
      simp only [vPln, hnx] at hplan
      have H_hL := Lib.hid hL; clear hL; have H_hplan := Lib.hid hplan; clear hplan; have H_hlo' := Lib.hid hlo'; clear hlo'
      go_wp2_with fail
      refine H_hplan.out.mono ?_
      rintro e Wc ⟨rfl, hkc, hmc⟩
      have hsz := hkc.size
      have hszL := H_hL.out.lt
      have own := H_hL.out.own.kept hkc.grown (by
        cases hb : u4.ownBlock with
        | none => exact .inl rfl
        | some g => exact .inr fun e => by cases e; have := (H_hL.out.own.lt M hb).1; omega)
      have hps := H_hL.out.hS.keep hkc hmc
      have hfl := fieldPln
      have hlen := H_hL.out.hpre
      have H_hkc := Lib.hid hkc; clear hkc; have H_hmc := Lib.hid hmc; clear hmc; have H_hps := Lib.hid hps; clear hps
      go_wp2_with (at_builtin; refine wpList_append_own _ rfl _ _ 42 rfl (w.heap.size + 1) 3 i0 (.int .i64 0) 1 8 Try.underlying42 hi hz0 hz1 hz2 rfl (by decide) _ _ _ rfl (own.alloc _) ⟨Wc.heap.size, 0, none⟩ 1 1 [.int .i64 j] rfl rfl (cell_one_new _ _ _) (by simp [Value.oneCell']) (by unfold maxLen; omega) (by omega) (by simp; omega) ?_; intro v' w1 hown' hgrow _)
      have hrow := (own.alloc (.cells #[.int .i64 j] 3)).lt
      have hka : ButM M w w1 := (((H_hL.out.hk.trans H_hkc.out).new _).of_grown hgrow fun k hk => by have := (hrow k hk).1; omega)
      have hMm : w1.heap[M]? = Wc.heap[M]? := (hgrow.block M (by simp; omega) (fun e => by have := (hrow M e.symm).1; omega)).trans (Below.heap_alloc _ _ _ (by omega))
      have hBm : w1.heap[w.heap.size]? = wr.heap[w.heap.size]? := (hgrow.block w.heap.size (by simp; omega) (fun e => by have := (hrow w.heap.size e.symm).1; omega)).trans ((Below.heap_alloc _ _ _ (by omega)).trans (H_hkc.out.block w.heap.size ⟨by omega, by omega⟩))
      have hm1 := H_hmc.out.same hMm
      have hp1 := H_hp.out.keep hka hm1
      have x0 := (World.cell?_of_block (a := ⟨w.heap.size, 0, none⟩) hBm).trans x0
      have x1 := (World.cell?_of_block (a := ⟨w.heap.size, 1, none⟩) hBm).trans x1
      have f0 := (World.frozen?_of_block (a := ⟨w.heap.size, 0, none⟩) hBm).trans f0
      have f1 := (World.frozen?_of_block (a := ⟨w.heap.size, 1, none⟩) hBm).trans f1
      obtain ⟨b, off, hla, hb1, d0, _⟩ := IsBats.at hp1.hl j hj
      have d0 := (hp1.hb.cell (p := ⟨b, off + j * 2, none⟩) hb1).trans d0
      have q4 := hp1.hS.c4
      rw [hla] at q4
      obtain ⟨⟨k1, k2⟩, k3, k4⟩ := H_hok.out j hj
      obtain ⟨bc, hbc⟩ := Int.eq_ofNat_of_zero_le k1
      have hgd : (l.getD j default).c = bc := by rw [getD_at _ _ _ hj, hbc]
      rw [hbc] at d0 k2
      have hlf7' : lf' < 128 := Nat.lt_of_lt_of_le H_hL.out.hlf (Nat.le_trans (Nat.pow_le_pow_right (by decide) hl7) (by decide))
      have hoff := bit_off lf' j (by omega) (by omega) htb
      have hwk : IntKind.i64.wrap ((2 : Int) ^ j) = 2 ^ j := by
        have h1 : 2 ^ j < 9223372036854775808 := Nat.lt_of_le_of_lt (Nat.pow_le_pow_right (n := 2) (by decide) (show j ≤ 62 by omega)) (by decide)
        have := i64_small (2 ^ j) h1
        push_cast at this
        exact this
      have hszw : w.heap.size < w1.heap.size := by have := hka.size; have h2 := hgrow.size; simp at h2; omega
      have hka' : ButM M w w1.drew := hka.trans ⟨rfl, rfl, rfl, Nat.le_refl _, fun _ _ => rfl⟩
      have xd0 : w1.drew.cell? ⟨w.heap.size, 0, none⟩ = some (.int .i64 bf') := x0
      have xd1 : w1.drew.cell? ⟨w.heap.size, 1, none⟩ = some (.int .i64 lf') := x1
      have fd0 : w1.drew.frozen? ⟨w.heap.size, 0, none⟩ = false := f0
      have fd1 : w1.drew.frozen? ⟨w.heap.size, 1, none⟩ = false := f1
      have hod : w1.drew.ownsRow (w.heap.size + 1) 3 1 v' (pre.length + 1) (pre.map (Value.int .i64) ++ [.int .i64 j]) := hown'
      have hmd : Memo w1.drew M (fun bf lf => planV s l bf lf.toNat) (m + cost lf') := hm1.same rfl
      have hszd : w.heap.size < w1.drew.heap.size := hszw
      have H_hka := Lib.hid hka; clear hka; have H_hm1 := Lib.hid hm1; clear hm1; have H_hp1 := Lib.hid hp1; clear hp1; have H_hown' := Lib.hid hown'; clear hown'; have H_hgrow := Lib.hid hgrow; clear hgrow; have H_own := Lib.hid own; clear own; have H_hrow := Lib.hid hrow; clear hrow; have H_hka' := Lib.hid hka'; clear hka'; have H_hod := Lib.hid hod; clear hod; have H_hmd := Lib.hid hmd; clear hmd; have H_hgd := Lib.hid hgd; clear hgd; have H_hlen := Lib.hid hlen; clear hlen
      go_still_tail 14, (by kernel_rfl)
      change wpList _ _ _ _ _ w1.drew
      generalize w1.drew = w2 at *
      go_wp2_with fail
      have hple := bit_le htb
      have hpos := Nat.two_pow_pos j
      have hsub := cost_sub lf' j (by omega) htb
      have hcm := H_hL.out.hm
      have hlen := H_hlen.out
      have e0 : ((w2.setCell ⟨w.heap.size, 0, none⟩ (.int .i64 bc)).setCell ⟨w.heap.size, 1, none⟩ (.int .i64 ((lf' - 2 ^ j : Nat) : Int))).cell? ⟨w.heap.size, 0, none⟩ = some (.int .i64 bc) := (World.cell?_setCell_other _ _ _ _ (by simp)).trans (setS xd0)
      have e1 : ((w2.setCell ⟨w.heap.size, 0, none⟩ (.int .i64 bc)).setCell ⟨w.heap.size, 1, none⟩ (.int .i64 ((lf' - 2 ^ j : Nat) : Int))).cell? ⟨w.heap.size, 1, none⟩ = some (.int .i64 ((lf' - 2 ^ j : Nat) : Int)) := setS ((World.cell?_setCell_other _ _ _ _ (by simp)).trans xd1)
      have hk3 := (H_hka'.out.put (b := w.heap.size) (o := 0) (Nat.le_refl _) (.int .i64 bc)).put (b := w.heap.size) (o := 1) (Nat.le_refl _) (.int .i64 ((lf' - 2 ^ j : Nat) : Int))
      have hbl3 : ∀ k, ¬ k = w.heap.size → ((w2.setCell ⟨w.heap.size, 0, none⟩ (.int .i64 bc)).setCell ⟨w.heap.size, 1, none⟩ (.int .i64 ((lf' - 2 ^ j : Nat) : Int))).heap[k]? = w2.heap[k]? := fun k hk => (Below.heap_setCell _ _ _ _ (by simpa using hk)).trans (Below.heap_setCell _ _ _ _ (by simpa using hk))
      have hm3 := H_hmd.out.same (hbl3 M (by omega))
      refine ⟨⟨bc, lf' - 2 ^ j, pre ++ [(j : Int)], m + cost lf', H_hp.out.keep hk3 hm3, by omega, hk3, by simpa using hszd, ?_, by have := H_hL.out.hlf; omega, by omega, by rw [← H_hgd.out]; exact H_hlo'.out, by simp; omega, ?_, e0, e1, by rw [World.frozen?_setCell, World.frozen?_setCell]; exact fd0, by rw [World.frozen?_setCell, World.frozen?_setCell]; exact fd1⟩, ?_⟩
      · rw [H_hL.out.ha, orderV_eq s l bf' lf', if_neg hz, hnx, Int.toNat_natCast, H_hgd.out]
        simp
      · have h5 := H_hod.out
        rw [List.length_append, List.map_append]
        refine World.ownsRow.kept h5 (row := some w.heap.size) ⟨rfl, rfl, rfl, by simp, fun k hk hn => hbl3 k (fun e => hn (by rw [e]))⟩ ?_
        cases hb : v'.ownBlock with
        | none => exact .inl rfl
        | some g => exact .inr fun e => by cases e; have := (h5.lt _ hb).1; omega
      · simp only [leftOf, e1, H_hL.out.c1]
        simp
        omega
end Go.Proofs.Ytpkjmnfgpbliaaa
