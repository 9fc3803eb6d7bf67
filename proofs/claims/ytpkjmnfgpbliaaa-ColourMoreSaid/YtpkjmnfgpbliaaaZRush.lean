/-
  colour.Rush: what it returns. Conditions: the values read as a shop, batches, an order.
-/
import Derived.Test.YtpkjmnfgpbliaaaZInsert
namespace Go.Proofs.Ytpkjmnfgpbliaaa
open Go.RowKit Go.Shelf Go.Sort
set_option linter.unusedSimpArgs false
set_option linter.unusedVariables false

set_option maxRecDepth 100000 in
set_option maxHeartbeats 4000000 in
theorem Insert_any (l : List Bat) (x : Bat) (i : Nat) (v : Value) (vb base : Nat) (w : World) (h : w.ownsRow base 28 2 v l.length (batCells l)) (hbw : base ≤ w.heap.size) (hi : i ≤ l.length) (hlen : l.length ≤ 1000000)
    (hvb : w.heap[vb]? = some (.cells #[.int .i64 x.c, .int .i64 x.g] 28 (0, 0))) (hne : ¬ v.ownBlock = some vb) :
    Calls Try.prog 69 #[v, .int .i64 i, .slice (some ⟨vb, 0, none⟩) 1 1] w fun e w' => (∃ v', e = .returned v' ∧ IsBats w' v' (l.take i ++ [x] ++ l.drop i)) ∧ Below base w w' := by
  obtain ⟨i0, hi0, hz0, hz1, hz2⟩ := info_parts infoBat
  have hcell : ∀ j u, [Value.int .i64 x.c, Value.int .i64 x.g][j]? = some u → w.cell? ((⟨vb, 0, none⟩ : Addr).add j) = some u := fun j u hu => by
    rw [Addr.add_lit]; simp only [World.cell?, hvb]; simpa using hu
  have hsn : batCells (l ++ [x]) = batCells l ++ [.int .i64 x.c, .int .i64 x.g] := batCells_snoc l x
  have hll : (l ++ [x]).length = l.length + 1 := by simp
  by_cases hin : i = l.length
  · subst hin
    have hend : l.take l.length ++ [x] ++ l.drop l.length = l ++ [x] := by simp
    rw [hend]
    rcases h.2 with ⟨rfl, h0⟩ | ⟨g, cap, cur, rfl, hb, hg, hnc, hcm, hcs, htk⟩
    · obtain rfl : l = [] := List.length_eq_zero_iff.1 h0
      have H_h := Lib.hid h; clear h; have H_hcell := Lib.hid hcell; clear hcell; have H_hsn := Lib.hid hsn; clear hsn; have H_hll := Lib.hid hll; clear hll
      go_enter Try.func69, Try.ntmps69
      go_wp2_with (at_builtin; refine wpList_append_own _ rfl _ _ 40 rfl base 28 i0 (.agg #[.int .i64 0, .int .i64 0]) 2 16 Try.underlying40 hi0 hz0 hz1 hz2 rfl (by decide) _ _ _ rfl H_h.out ⟨vb, 0, none⟩ 1 1 [.int .i64 x.c, .int .i64 x.g] rfl rfl H_hcell.out (by simp [Value.oneCell']) (by simp [maxLen]) (by simp) hbw ?_; intro v' w1 hown' hgrow _)
      refine bodyPost_ret (v := v') (by simp [results, Try.results69, go_sem]) rfl ⟨⟨v', rfl, ?_⟩, (Below.refl base w).grown hgrow hbw (fun k hk => by cases hk)⟩
      rw [← H_hsn.out] at hown'
      exact IsBats.of_owns hown' (by simp)
    · have hgw : g < w.heap.size := (Array.getElem?_eq_some_iff.1 hg).1
      have hc63 : cap ≤ 9223372036854775807 := by unfold maxLen at hcm; omega
      have H_h := Lib.hid h; clear h; have H_hcell := Lib.hid hcell; clear hcell; have H_hsn := Lib.hid hsn; clear hsn; have H_hll := Lib.hid hll; clear hll
      go_enter Try.func69, Try.ntmps69
      go_wp2_with (at_builtin; refine wpList_append_own _ rfl _ _ 40 rfl base 28 i0 (.agg #[.int .i64 0, .int .i64 0]) 2 16 Try.underlying40 hi0 hz0 hz1 hz2 rfl (by decide) _ _ _ rfl H_h.out ⟨vb, 0, none⟩ 1 1 [.int .i64 x.c, .int .i64 x.g] rfl rfl H_hcell.out (by simp [Value.oneCell']) (by unfold maxLen; omega) (by omega) hbw ?_; intro v' w1 hown' hgrow _)
      all_goals
        refine bodyPost_ret (v := v') (by simp [results, Try.results69, go_sem]) rfl ⟨⟨v', rfl, ?_⟩, (Below.refl base w).grown hgrow hbw (fun k hk => by cases hk; exact hb)⟩
        rw [← H_hsn.out, ← H_hll.out] at hown'
        exact IsBats.of_owns hown' (by rw [H_hll.out]; omega)
  · rcases h.2 with ⟨rfl, h0⟩ | ⟨g, cap, cur, rfl, hb, hg, hnc, hcm, hcs, htk⟩
    · omega
    · by_cases hr : l.length + 1 ≤ cap
      · exact Insert_room l x i g cap vb base cur w h hg hcs hcm hb (by omega) hr hlen hvb (fun e => hne (by rw [e]; rfl))
      · exact Insert_grow l x i g cap vb base cur w h hg hnc hbw (by omega) (by omega) hlen hvb

theorem call_values1 (xs : Array Value) (w : World) : (callFunc 90 xs).run Try.prog w = .ok (.enter 90 xs) w := by kernel_rfl
/-- loses over values. -/
theorem losesVals (s : Shp) (P M : Nat) (sl lv bv : Value) (bf : Nat) (bs : List Bat) (w w1 : World) (hS : ShopAt w P M sl lv s) (hc : IsCols w sl s.cols) (hg : Good s) (hbf : bf < s.cols.length) (hl : IsBats w bv bs)
    (hok : ∀ b ∈ bs, okBat s b) (hlen : bs.length ≤ 8) (c0 : w1.cell? ⟨w.heap.size, 0, none⟩ = some bv) (hb : Below w.heap.size w w1) (hs : w1.heap.size = w.heap.size + 1) :
    Calls Try.prog 62 #[.pointer (some ⟨P, 0, none⟩), .int .i64 bf, .func (.func 90) #[] #[.pointer (some ⟨w.heap.size, 0, none⟩)]] w1 fun e w' =>
      e = .returned (.int .i64 (lossB s bf bs)) ∧ Below w1.heap.size w1 w' :=
  loses_any s P M sl lv bf _ _ bs (· < w1.heap.size) w1
    (fun n hn => values1_stops (· < w1.heap.size) bv bs w.heap.size w w1 hb (fun k hk => by omega) (by omega) (fun k hk => hk) (by omega) hl c0 n hn)
    (fun k hk => hk) call_values1 (hS.below hb) (hc.below hb) hg hbf hok hlen
/-- Collect over put. -/
theorem collectPut (P M : Nat) (sl lv ov : Value) (s : Shp) (l : List Bat) (ord : List Int) (w w1 : World) (hS : ShopAt w P M sl lv s) (hl : IsBats w lv l) (ho : IsInts w ov ord)
    (hv : ∀ j (hj : j < ord.length), 0 ≤ ord[j] ∧ ord[j] < l.length) (hlen : ord.length ≤ 8)
    (c0 : w1.cell? ⟨w.heap.size + 1, 0, none⟩ = some ov) (c1 : w1.cell? ⟨w.heap.size, 0, none⟩ = some (.pointer (some ⟨P, 0, none⟩))) (hb : Below w.heap.size w w1) (hs : w1.heap.size = w.heap.size + 2) :
    Calls Try.prog 67 #[.func (.func 88) #[] #[.pointer (some ⟨w.heap.size + 1, 0, none⟩), .pointer (some ⟨w.heap.size, 0, none⟩)]] w1 fun e w' =>
      (∃ a c, e = .returned (.slice a (putL l ord).length c) ∧ w'.ownsRow w1.heap.size 28 2 (.slice a (putL l ord).length c) (putL l ord).length (batCells (putL l ord))) ∧ Below w1.heap.size w1 w' := by
  have hlt := hS.lt
  refine (collectBat_any _ _ (putL l ord) (· < w1.heap.size) w1
    (fun n hn => put1_stops (· < w1.heap.size) P lv ov l ord (w.heap.size + 1) w.heap.size w w1 hb (fun k hk => by omega) (by omega) (by omega) (by omega) (by omega) (by omega) (by omega) ho hl c0 c1 ((hb.cell hlt).trans hS.c4) hv n hn)
    (fun k hk => hk) call_put1 (by rw [putL_len]; omega)).mono ?_
  rintro e w' ⟨⟨v, rfl, hown⟩, hb'⟩
  obtain ⟨a, c, rfl⟩ := ownsRow_form hown
  exact ⟨⟨a, c, rfl, hown⟩, hb'⟩

/-- The place at which a further batch loses least, as the code keeps it. -/
def rushW (s : Shp) (bf : Int) (bs : List Bat) (b : Bat) (k : Nat) : Nat × Int := (List.range k).foldl (fun p i => if 0 ≤ lossB s bf (bs.take i ++ [b] ++ bs.drop i) ∧ (p.2 < 0 ∨ lossB s bf (bs.take i ++ [b] ++ bs.drop i) < p.2) then (i, lossB s bf (bs.take i ++ [b] ++ bs.drop i)) else p) (0, -1)
theorem rushW_succ (s : Shp) (bf : Int) (bs : List Bat) (b : Bat) (k : Nat) : rushW s bf bs b (k + 1) = if 0 ≤ lossB s bf (bs.take k ++ [b] ++ bs.drop k) ∧ ((rushW s bf bs b k).2 < 0 ∨ lossB s bf (bs.take k ++ [b] ++ bs.drop k) < (rushW s bf bs b k).2) then (k, lossB s bf (bs.take k ++ [b] ++ bs.drop k)) else rushW s bf bs b k := by
  unfold rushW; rw [List.range_succ, List.foldl_append]; rfl
/-- What Rush returns. -/
def rushP (s : Shp) (st : Int) (l : List Bat) (ord : List Int) (b : Bat) : Int × Int × Int :=
  if ¬ openErr s l [st] = 0 then (0, 0, openErr s l [st]) else if ¬ strangeE l.length ord = 0 then (0, 0, strangeE l.length ord) else if ¬ openErr s [b] [] = 0 then (0, 0, openErr s [b] []) else
    if (rushW s st (putL l ord) b (l.length + 1)).2 < 0 then (0, 0, 9) else ((rushW s st (putL l ord) b (l.length + 1)).1, (rushW s st (putL l ord) b (l.length + 1)).2, 0)
set_option maxRecDepth 100000 in
set_option maxHeartbeats 4000000 in
theorem Rush_any (v lv ov : Value) (s : Shp) (start : Int) (l : List Bat) (ord : List Int) (b : Bat) (w : World) (h : IsShop w v s) (hl : IsBats w lv l) (ho : IsInts w ov ord) :
    Calls Try.prog 26 #[v, .int .i64 start, lv, ov, .agg #[.int .i64 b.c, .int .i64 b.g]] w fun e w' => e = .returned (tup3 (rushP s start l ord b)) ∧ Below w.heap.size w w' := by
  obtain ⟨sl, rfl, hc⟩ := h
  obtain ⟨a, c, rfl, _⟩ := hc.form
  obtain ⟨la, lc, rfl, _⟩ := hl.form
  obtain ⟨oa, oc, rfl, _⟩ := ho.form
  obtain ⟨W0, eW, x0, x1, x2, x3, hbW, hsz⟩ := box4 w (.slice a s.cols.length c) (.int .i64 s.keep.lo) (.int .i64 s.keep.hi) (.int .i64 s.rinse) 26
  obtain ⟨W1, eW1, y0, y1, hb1, hs1⟩ := box2 W0 (.int .i64 b.c) (.int .i64 b.g) 28
  obtain ⟨W2, eW2, hI, hb2⟩ := boxInt W1 start 3
  have hW0 : w.heap.size < W0.heap.size := by omega
  have hW1 : W0.heap.size < W1.heap.size := by omega
  have hb12 := hb1.trans (hb2.mono hb1.size)
  obtain ⟨x10, x11, x12, x13, _⟩ := keep4 hb1 hW0 x0 x1 x2 x3
  obtain ⟨x0, x1, x2, x3, _⟩ := keep4 hb12 hW0 x0 x1 x2 x3
  have y0 := (hb2.cell (p := ⟨W0.heap.size, 0, none⟩) hW1).trans y0
  have y1 := (hb2.cell (p := ⟨W0.heap.size, 1, none⟩) hW1).trans y1
  have hb02 : Below w.heap.size w W2 := hbW.trans (hb12.mono hbW.size)
  have hc2 := hc.below hb02
  have hl2 := hl.below hb02
  have ho2 := ho.below hb02
  have hW2 : W0.heap.size < W2.heap.size := Nat.lt_of_lt_of_le hW1 hb2.size
  have hW2' : w.heap.size < W2.heap.size := by omega
  have H_hbW := Lib.hid hbW; clear hbW; have H_hsz := Lib.hid hsz; clear hsz; have H_hc := Lib.hid hc; clear hc; have H_hl := Lib.hid hl; clear hl; have H_ho := Lib.hid ho; clear ho; have H_hb1 := Lib.hid hb1; clear hb1; have H_hs1 := Lib.hid hs1; clear hs1; have H_hb2 := Lib.hid hb2; clear hb2; have H_hb12 := Lib.hid hb12; clear hb12; have H_hb02 := Lib.hid hb02; clear hb02; have H_hI := Lib.hid hI; clear hI; have H_hc2 := Lib.hid hc2; clear hc2; have H_hl2 := Lib.hid hl2; clear hl2; have H_ho2 := Lib.hid ho2; clear ho2
  go_enter Try.func26, Try.ntmps26
  go_wp2_with fail
  refine (open_any _ _ _ s l [start] (.slice a s.cols.length c) W2 H_hc2.out rfl H_hl2.out H_hI.out).mono ?_
  rintro e W3 ⟨hb3, ⟨he, rfl⟩ | ⟨he, P, M, rfl, hS, hM, _⟩⟩
  · have hr : rushP s start l ord b = (0, 0, openErr s l [start]) := by rw [rushP, if_pos he]
    generalize openErr s l [start] = x at *
    have hx : (x == 0) = false := by simpa using he
    have hx' : (x != 0) = true := by simpa using he
    have H_hr := Lib.hid hr; clear hr; have H_he := Lib.hid he; clear he
    go_wp2_with fail
    go_ret3
    exact ⟨by rw [H_hr.out]; rfl, H_hb02.out.trans (hb3.mono H_hb02.out.size)⟩
  · obtain ⟨hg, hst, hl7, hbe⟩ := openErr_zero he
    have hst := (outB_one _ _ _).1 hst
    have hok := okBat_all hbe
    obtain ⟨bf, rfl⟩ := Int.eq_ofNat_of_zero_le hst.1
    have hbf : bf < s.cols.length := by omega
    have hr : rushP s bf l ord b = (if ¬ strangeE l.length ord = 0 then (0, 0, strangeE l.length ord) else if ¬ openErr s [b] [] = 0 then (0, 0, openErr s [b] []) else
      if (rushW s bf (putL l ord) b (l.length + 1)).2 < 0 then (0, 0, 9) else (((rushW s bf (putL l ord) b (l.length + 1)).1 : Int), (rushW s bf (putL l ord) b (l.length + 1)).2, 0) : Int × Int × Int) := by rw [rushP, if_neg (by simpa using he)]
    have hc3 := H_hc2.out.below hb3
    have hl3 := H_hl2.out.below hb3
    have ho3 := H_ho2.out.below hb3
    obtain ⟨x0, x1, x2, x3, _⟩ := keep4 hb3 hW2' x0 x1 x2 x3
    have y0 := (hb3.cell (p := ⟨W0.heap.size, 0, none⟩) hW2).trans y0
    have y1 := (hb3.cell (p := ⟨W0.heap.size, 1, none⟩) hW2).trans y1
    have hb03 := H_hb02.out.trans (hb3.mono H_hb02.out.size)
    have hz3 := hb3.size
    have c4 := hS.c4
    have H_hr := Lib.hid hr; clear hr; have H_he := Lib.hid he; clear he; have H_hb3 := Lib.hid hb3; clear hb3; have H_hb03 := Lib.hid hb03; clear hb03; have H_hok := Lib.hid hok; clear hok; have H_hbe := Lib.hid hbe; clear hbe; have H_hM := Lib.hid hM; clear hM; have H_hg := Lib.hid hg; clear hg; have H_hS := Lib.hid hS; clear hS; have H_hc3 := Lib.hid hc3; clear hc3
    go_wp2_with fail
    refine (strange_any P _ _ l ord W3 hl3 ho3 c4 (by omega)).mono ?_
    rintro e W4 ⟨rfl, hb4⟩
    have hb04 := H_hb03.out.trans (hb4.mono H_hb03.out.size)
    by_cases hs : strangeE l.length ord = 0
    · rw [if_neg (by simpa using hs)] at H_hr
      obtain ⟨hol, hoo, _⟩ := strange_zero hs
      rw [hs]
      have hv := ord_range hoo
      obtain ⟨x0, x1, x2, x3, _⟩ := keep4 hb4 (by omega) x0 x1 x2 x3
      have y0 := (hb4.cell (p := ⟨W0.heap.size, 0, none⟩) (by show W0.heap.size < _; omega)).trans y0
      have y1 := (hb4.cell (p := ⟨W0.heap.size, 1, none⟩) (by show W0.heap.size < _; omega)).trans y1
      have hc4 := H_hc3.out.below hb4
      have hl4 := hl3.below hb4
      have ho4 := ho3.below hb4
      have hS4 := H_hS.out.below hb4
      have hz4 := hb4.size
      obtain ⟨W5, eW5, hbat, hb5⟩ := boxBat W4 b 28
      have hc5 := hc4.below hb5
      have hz5 := hb5.size
      have hb05 := hb04.trans (hb5.mono hb04.size)
      have hnil : IsInts W5 (.slice none 0 0) [] := ⟨by simp, none, 0, by simp, rfl, .inl rfl⟩
      obtain ⟨x0, x1, x2, x3, _⟩ := keep4 hb5 (by omega) x0 x1 x2 x3
      have y0 := (hb5.cell (p := ⟨W0.heap.size, 0, none⟩) (by show W0.heap.size < _; omega)).trans y0
      have y1 := (hb5.cell (p := ⟨W0.heap.size, 1, none⟩) (by show W0.heap.size < _; omega)).trans y1
      have hop := open_any _ _ _ s [b] [] (.slice a s.cols.length c) W5 hc5 rfl hbat hnil
      have H_hb4 := Lib.hid hb4; clear hb4; have H_hb04 := Lib.hid hb04; clear hb04; have H_hl3 := Lib.hid hl3; clear hl3; have H_ho3 := Lib.hid ho3; clear ho3; have H_hv := Lib.hid hv; clear hv; have H_hol := Lib.hid hol; clear hol; have H_hoo := Lib.hid hoo; clear hoo; have H_hs := Lib.hid hs; clear hs; have H_hS4 := Lib.hid hS4; clear hS4; have H_hc4 := Lib.hid hc4; clear hc4; have H_hl4 := Lib.hid hl4; clear hl4; have H_ho4 := Lib.hid ho4; clear ho4; have H_hb5 := Lib.hid hb5; clear hb5; have H_hc5 := Lib.hid hc5; clear hc5; have H_hb05 := Lib.hid hb05; clear hb05; have H_hbat := Lib.hid hbat; clear hbat; have H_hnil := Lib.hid hnil; clear hnil; have H_hop := Lib.hid hop; clear hop
      go_wp2_with fail
      refine H_hop.out.mono ?_
      rintro e W6 ⟨hb6, ⟨he2, rfl⟩ | ⟨he2, P2, M2, rfl, _, _, _⟩⟩
      · rw [if_pos he2] at H_hr
        generalize openErr s [b] [] = x at *
        have hx : (x == 0) = false := by simpa using he2
        have hx' : (x != 0) = true := by simpa using he2
        have hb06 := H_hb05.out.trans (hb6.mono H_hb05.out.size)
        have H_he2 := Lib.hid he2; clear he2; have H_hb6 := Lib.hid hb6; clear hb6; have H_hb06 := Lib.hid hb06; clear hb06
        go_wp2_with fail
        go_ret3
        exact ⟨by rw [H_hr.out]; rfl, H_hb06.out⟩
      · rw [if_neg (by simpa using he2)] at H_hr
        have hb06 := H_hb05.out.trans (hb6.mono H_hb05.out.size)
        have y0 := (hb6.cell (p := ⟨W0.heap.size, 0, none⟩) (by show W0.heap.size < _; omega)).trans y0
        have y1 := (hb6.cell (p := ⟨W0.heap.size, 1, none⟩) (by show W0.heap.size < _; omega)).trans y1
        have hb46 := H_hb5.out.trans (hb6.mono H_hb5.out.size)
        have hl6 := H_hl4.out.below hb46
        have ho6 := H_ho4.out.below hb46
        have hS6 := H_hS4.out.below hb46
        have hc6 := H_hc4.out.below hb46
        have hz6 := hb6.size
        have H_he2 := Lib.hid he2; clear he2; have H_hb6 := Lib.hid hb6; clear hb6; have H_hb06 := Lib.hid hb06; clear hb06; have H_hb46 := Lib.hid hb46; clear hb46; have H_hl6 := Lib.hid hl6; clear hl6; have H_hS6 := Lib.hid hS6; clear hS6; have H_hc6 := Lib.hid hc6; clear hc6
        go_wp2_with fail
        refine (put_any P _ ord W6 ho6).mono ?_
        rintro e W7 ⟨rfl, p0, p1, hb7, hs7⟩
        have hb07 := H_hb06.out.trans (hb7.mono H_hb06.out.size)
        have hC := collectPut P M _ _ _ s l ord W6 W7 H_hS6.out H_hl6.out ho6 H_hv.out (by have := H_hol.out; omega) p0 p1 hb7 hs7
        have y0 := (hb7.cell (p := ⟨W0.heap.size, 0, none⟩) (by show W0.heap.size < _; omega)).trans y0
        have y1 := (hb7.cell (p := ⟨W0.heap.size, 1, none⟩) (by show W0.heap.size < _; omega)).trans y1
        have H_hb7 := Lib.hid hb7; clear hb7; have H_hb07 := Lib.hid hb07; clear hb07; have H_ho6 := Lib.hid ho6; clear ho6; have H_p0 := Lib.hid p0; clear p0; have H_p1 := Lib.hid p1; clear p1
        go_wp2_with fail
        refine hC.mono ?_
        rintro e W8 ⟨⟨aa, ac, rfl, hown⟩, hb8⟩
        clear hC
        have hpl : (putL l ord).length = l.length := by rw [putL_len]; exact H_hol.out
        have hokp := putL_ok H_hok.out H_hv.out
        have hy8 := hb8.size
        have y0 := (hb8.cell (p := ⟨W0.heap.size, 0, none⟩) (by show W0.heap.size < _; omega)).trans y0
        have y1 := (hb8.cell (p := ⟨W0.heap.size, 1, none⟩) (by show W0.heap.size < _; omega)).trans y1
        have hb68 := H_hb7.out.trans (hb8.mono (by omega))
        have hS8 := H_hS6.out.below hb68
        have hc8 := H_hc6.out.below hb68
        have hb08 := H_hb07.out.trans (hb8.mono H_hb07.out.size)
        obtain ⟨hbc, hbg0, hbg1⟩ : okBat s b := okBat_all (openErr_zero H_he2.out).2.2.2 0 (by simp)
        have hokb : okBat s b := ⟨hbc, hbg0, hbg1⟩
        generalize hbs : putL l ord = bs at *
        rw [hpl] at hown ⊢
        have H_hb8 := Lib.hid hb8; clear hb8; have H_hown := Lib.hid hown; clear hown; have H_hb68 := Lib.hid hb68; clear hb68; have H_hS8 := Lib.hid hS8; clear hS8; have H_hc8 := Lib.hid hc8; clear hc8; have H_hb08 := Lib.hid hb08; clear hb08; have H_hokp := Lib.hid hokp; clear hokp; have H_hbs := Lib.hid hbs; clear hbs; have H_hpl := Lib.hid hpl; clear hpl; have H_hokb := Lib.hid hokb; clear hokb; have H_hbc := Lib.hid hbc; clear hbc; have H_hbg0 := Lib.hid hbg0; clear hbg0; have H_hbg1 := Lib.hid hbg1; clear hbg1
        go_wp2_with fail
        go_loopw [49, 10, 11] (fun i f n wr => ∃ k : Nat, k ≤ l.length + 1 ∧ i = .int .i64 k ∧ f = .int .i64 (rushW s bf bs b k).1 ∧ n = .int .i64 (rushW s bf bs b k).2 ∧ Below W8.heap.size W8 wr) (fun i _ _ _ => l.length + 1 - (intOf i).toNat)
        case atStart => exact ⟨0, by omega, rfl, rfl, rfl, Below.refl _ _⟩
        case round =>
          obtain ⟨k, hk, rfl, rfl, rfl, hkr⟩ := hrel
          have hzr := hkr.size
          have y0 := (hkr.cell (p := ⟨W0.heap.size, 0, none⟩) (by show W0.heap.size < _; omega)).trans y0
          have y1 := (hkr.cell (p := ⟨W0.heap.size, 1, none⟩) (by show W0.heap.size < _; omega)).trans y1
          have hSy : ∀ X, Below wr.heap.size wr.drew X → X.cell? ⟨W0.heap.size, 0, none⟩ = some (.int .i64 b.c) ∧ X.cell? ⟨W0.heap.size, 1, none⟩ = some (.int .i64 b.g) := fun X hX =>
            ⟨(hX.cell (p := ⟨W0.heap.size, 0, none⟩) (by show W0.heap.size < _; omega)).trans y0, (hX.cell (p := ⟨W0.heap.size, 1, none⟩) (by show W0.heap.size < _; omega)).trans y1⟩
          by_cases hlt : k < l.length + 1
          · have hd : Below wr.heap.size wr.drew wr.drew := Below.refl _ _
            have hownR : wr.drew.ownsRow W7.heap.size 28 2 (.slice aa l.length ac) bs.length (batCells bs) := by
              rw [H_hpl.out]
              exact (H_hown.out.kept (row := none) ⟨hkr.os, hkr.tape, hkr.output, hkr.size, fun k hk _ => hkr.block k hk⟩ (by cases (Value.slice aa l.length ac).ownBlock <;> simp))
            have hC1 : Calls Try.prog 70 #[.slice aa l.length ac] wr.drew fun e w' => ∃ v', e = .returned v' ∧ w'.ownsRow wr.heap.size 28 2 v' bs.length (batCells bs) ∧ Below wr.heap.size wr.drew w' := by
              refine (Clone_any _ bs W7.heap.size wr.drew hownR (by rw [H_hpl.out]; omega)).mono ?_
              rintro e w' ⟨⟨v', rfl, h1⟩, h2⟩
              exact ⟨v', rfl, h1, h2⟩
            have hC2 : Calls Try.prog 70 #[.slice aa l.length ac] (wr.drew.alloc (.cells #[.int .i64 b.c, .int .i64 b.g] 28)) fun e w' => ∃ v', e = .returned v' ∧ w'.ownsRow (wr.heap.size + 1) 28 2 v' bs.length (batCells bs) ∧ Below (wr.heap.size + 1) (wr.drew.alloc (.cells #[.int .i64 b.c, .int .i64 b.g] 28)) w' := by
              refine (Clone_any _ bs W7.heap.size _ (hownR.alloc _) (by rw [H_hpl.out]; omega)).mono ?_
              rintro e w' ⟨⟨v', rfl, h1⟩, h2⟩
              exact ⟨v', rfl, by simpa using h1, by simpa using h2⟩
            have hal : ∀ X, Below wr.heap.size wr.drew X → ∀ o, Below wr.heap.size wr.drew (X.alloc o) := fun X hX o => hX.alloc (by have := hX.size; exact this) o
            have hins1 : ∀ v' w2, w2.ownsRow (wr.heap.size + 1) 28 2 v' bs.length (batCells bs) → Below (wr.heap.size + 1) (wr.drew.alloc (.cells #[.int .i64 b.c, .int .i64 b.g] 28)) w2 → Calls Try.prog 69 #[v', .int .i64 k, .slice (some ⟨wr.heap.size, 0, none⟩) 1 1] w2 fun e w' => ∃ v2, e = .returned v2 ∧ IsBats w' v2 (bs.take k ++ [b] ++ bs.drop k) ∧ Below wr.heap.size wr.drew w' := by
              intro v' w2 h1 h2
              have hb2' : Below wr.heap.size wr.drew w2 := (hal _ hd _).trans (h2.mono (by omega))
              have hsz2 : wr.heap.size + 1 ≤ w2.heap.size := by have := h2.size; simpa using this
              refine (Insert_any bs b k v' wr.heap.size wr.heap.size w2 (ownsRow_base h1 (by omega)) (by omega) (by rw [H_hpl.out]; omega) (by rw [H_hpl.out]; omega) ((h2.block wr.heap.size (by omega)).trans (heap_alloc_new wr.drew _)) (fun e => by have := (h1.lt _ e).1; omega)).mono ?_
              rintro e w' ⟨⟨v2, rfl, h3⟩, h4⟩
              exact ⟨v2, rfl, h3, hb2'.trans h4⟩
            have hins2 : ∀ v' w2, w2.ownsRow wr.heap.size 28 2 v' bs.length (batCells bs) → Below wr.heap.size wr.drew w2 → Calls Try.prog 69 #[v', .int .i64 k, .slice (some ⟨w2.heap.size, 0, none⟩) 1 1] (w2.alloc (.cells #[.int .i64 b.c, .int .i64 b.g] 28)) fun e w' => ∃ v2, e = .returned v2 ∧ IsBats w' v2 (bs.take k ++ [b] ++ bs.drop k) ∧ Below wr.heap.size wr.drew w' := by
              intro v' w2 h1 h2
              have hsz2 : wr.heap.size ≤ w2.heap.size := h2.size
              refine (Insert_any bs b k v' w2.heap.size wr.heap.size _ (h1.alloc _) (by simp; omega) (by rw [H_hpl.out]; omega) (by rw [H_hpl.out]; omega) (heap_alloc_new w2 _) (fun e => by have := (h1.lt _ e).2; omega)).mono ?_
              rintro e w' ⟨⟨v2, rfl, h3⟩, h4⟩
              exact ⟨v2, rfl, h3, (hal _ h2 _).trans h4⟩
            have hlos : ∀ v2 Wi Wv, Below wr.heap.size wr.drew Wi → IsBats Wi v2 (bs.take k ++ [b] ++ bs.drop k) → Wv.cell? ⟨Wi.heap.size, 0, none⟩ = some v2 → Below Wi.heap.size Wi Wv → Wv.heap.size = Wi.heap.size + 1 → Calls Try.prog 62 #[.pointer (some ⟨P, 0, none⟩), .int .i64 bf, .func (.func 90) #[] #[.pointer (some ⟨Wi.heap.size, 0, none⟩)]] Wv fun e w' => e = .returned (.int .i64 (lossB s bf (bs.take k ++ [b] ++ bs.drop k))) ∧ Below wr.heap.size wr.drew w' := by
              intro v2 Wi Wv h1 h2 h3 h4 h5
              have hWi : Below W8.heap.size W8 Wi := (hkr.drew).trans (h1.mono hzr)
              have hszi : wr.heap.size ≤ Wi.heap.size := h1.size
              refine (losesVals s P M _ _ v2 bf _ Wi Wv (H_hS8.out.below hWi) (H_hc8.out.below hWi) H_hg.out hbf h2 ?_ (by simp [H_hpl.out]; omega) h3 h4 h5).mono ?_
              · intro x hx
                simp only [List.mem_append, List.mem_singleton] at hx
                rcases hx with (hx | rfl) | hx
                · exact H_hokp.out x (List.mem_of_mem_take hx)
                · exact H_hokb.out
                · exact H_hokp.out x (List.mem_of_mem_drop hx)
              · rintro e w' ⟨rfl, h6⟩
                exact ⟨rfl, (h1.trans (h4.mono hszi)).trans (h6.mono (by omega))⟩
            have hrw := rushW_succ s bf bs b k
            have hkr' : ∀ X, Below wr.heap.size wr.drew X → Below W8.heap.size W8 X := fun X hX => (hkr.drew).trans (hX.mono hzr)
            have evs := call_values1
            generalize lossB s bf (bs.take k ++ [b] ++ bs.drop k) = nl at *
            generalize hins : bs.take k ++ [b] ++ bs.drop k = ins at *
            generalize hrk : rushW s bf bs b k = rk at *
            have hSy0 := hSy wr.drew hd
            have hab : ∀ w2, Below (wr.heap.size + 1) (wr.drew.alloc (.cells #[.int .i64 b.c, .int .i64 b.g] 28)) w2 → Below wr.heap.size wr.drew w2 := fun w2 h2 => (hal _ hd _).trans (h2.mono (by omega))
            have H_hkr := Lib.hid hkr; clear hkr; have H_hd := Lib.hid hd; clear hd; have H_hownR := Lib.hid hownR; clear hownR; have H_hC1 := Lib.hid hC1; clear hC1; have H_hC2 := Lib.hid hC2; clear hC2; have H_hal := Lib.hid hal; clear hal; have H_hins1 := Lib.hid hins1; clear hins1; have H_hins2 := Lib.hid hins2; clear hins2; have H_hlos := Lib.hid hlos; clear hlos; have H_hrw := Lib.hid hrw; clear hrw; have H_hkr' := Lib.hid hkr'; clear hkr'; have H_hins := Lib.hid hins; clear hins; have H_hrk := Lib.hid hrk; clear hrk; have H_hSy := Lib.hid hSy; clear hSy; have H_hSy0 := Lib.hid hSy0; clear hSy0; have H_hab := Lib.hid hab; clear hab
            go_wp2_with fail
            go_region_held3 (fun X => X.cell? ⟨W0.heap.size, 0, none⟩ = some (.int .i64 b.c) ∧ X.cell? ⟨W0.heap.size, 1, none⟩ = some (.int .i64 b.g))
              (first | exact H_hSy.out _ H_hd.out | exact H_hSy.out _ (H_hal.out _ H_hd.out _) | exact H_hSy.out _ hkf | exact H_hSy.out _ hkv | exact H_hSy.out _ hki | exact H_hSy.out _ (H_hab.out _ hkC) | exact H_hSy.out _ hkC | exact H_hSy.out _ (H_hal.out _ hkC _))
              (first
                | (go_at_call 62; refine (H_hlos.out _ _ _ hki hbts pv hbv hsv).mono ?_; rintro e Wf ⟨rfl, hkf⟩)
                | (go_at_call 68; refine (values_any _ _ _ hbts).mono ?_; rintro e Wv ⟨rfl, pv, hbv, hsv⟩; have hkv := hki.trans (hbv.mono hki.size))
                | (go_at_call 69; refine (H_hins1.out _ _ hownC hkC).mono ?_; rintro e Wi ⟨v2, rfl, hbts, hki⟩)
                | (go_at_call 69; refine (H_hins2.out _ _ hownC hkC).mono ?_; rintro e Wi ⟨v2, rfl, hbts, hki⟩)
                | (go_at_call 70; refine H_hC1.out.mono ?_; rintro e Wc ⟨vc, rfl, hownC, hkC⟩)
                | (go_at_call 70; refine H_hC2.out.mono ?_; rintro e Wc ⟨vc, rfl, hownC, hkC⟩))
            all_goals
              rename_i hHeld
              clear hHeld
              simp only [Exit.then]
              first | apply_assumption | (rename_i aK; apply aK)
              replace hkf := H_hkr'.out _ hkf
              clear hbts pv hbv hsv hkv hki
              by_cases h1 : 0 ≤ nl
              · by_cases h2 : rk.2 < 0
                · have hrw2 := H_hrw.out
                  rw [if_pos ⟨h1, .inl h2⟩] at hrw2
                  have H_hkf := Lib.hid hkf; clear hkf; have H_hrw2 := Lib.hid hrw2; clear hrw2
                  go_wp2_with fail
                  exact ⟨⟨k + 1, by omega, by simp, by rw [H_hrw2.out], by rw [H_hrw2.out], H_hkf.out⟩, by simp [intOf]; omega⟩
                · by_cases h3 : nl < rk.2
                  · have hrw2 := H_hrw.out
                    rw [if_pos ⟨h1, .inr h3⟩] at hrw2
                    have H_hkf := Lib.hid hkf; clear hkf; have H_hrw2 := Lib.hid hrw2; clear hrw2
                    go_wp2_with fail
                    exact ⟨⟨k + 1, by omega, by simp, by rw [H_hrw2.out], by rw [H_hrw2.out], H_hkf.out⟩, by simp [intOf]; omega⟩
                  · have hrw2 := H_hrw.out
                    rw [if_neg (by omega)] at hrw2
                    have H_hkf := Lib.hid hkf; clear hkf; have H_hrw2 := Lib.hid hrw2; clear hrw2
                    go_wp2_with fail
                    exact ⟨⟨k + 1, by omega, by simp, by rw [H_hrw2.out], by rw [H_hrw2.out], H_hkf.out⟩, by simp [intOf]; omega⟩
              · have hrw2 := H_hrw.out
                rw [if_neg (by omega)] at hrw2
                have H_hkf := Lib.hid hkf; clear hkf; have H_hrw2 := Lib.hid hrw2; clear hrw2
                go_wp2_with fail
                exact ⟨⟨k + 1, by omega, by simp, by rw [H_hrw2.out], by rw [H_hrw2.out], H_hkf.out⟩, by simp [intOf]; omega⟩
          · have hke : k = l.length + 1 := by omega
            subst hke
            have hbw8 : w.heap.size ≤ W8.heap.size := by omega
            generalize rushW s bf bs b (l.length + 1) = rk at *
            have hrr := H_hr.out
            by_cases hn : rk.2 < 0
            · rw [if_pos hn] at hrr
              have H_hkr := Lib.hid hkr; clear hkr; have H_hSy := Lib.hid hSy; clear hSy; have H_hrr := Lib.hid hrr; clear hrr
              go_wp2_with fail
              go_ret3
              exact ⟨by rw [H_hrr.out]; rfl, H_hb08.out.trans (H_hkr.out.mono hbw8)⟩
            · rw [if_neg hn] at hrr
              have H_hkr := Lib.hid hkr; clear hkr; have H_hSy := Lib.hid hSy; clear hSy; have H_hrr := Lib.hid hrr; clear hrr
              go_wp2_with fail
              go_ret3
              exact ⟨by rw [H_hrr.out]; rfl, H_hb08.out.trans (H_hkr.out.mono hbw8)⟩
    · rw [if_pos hs] at H_hr
      generalize strangeE l.length ord = x at *
      have hx : (x == 0) = false := by simpa using hs
      have hx' : (x != 0) = true := by simpa using hs
      have H_hb4 := Lib.hid hb4; clear hb4; have H_hb04 := Lib.hid hb04; clear hb04; have H_hs := Lib.hid hs; clear hs
      go_wp2_with fail
      go_ret3
      exact ⟨by rw [H_hr.out]; rfl, H_hb04.out⟩
end Go.Proofs.Ytpkjmnfgpbliaaa
