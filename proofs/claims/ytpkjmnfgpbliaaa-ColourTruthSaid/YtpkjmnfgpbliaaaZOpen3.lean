/-
  colour.open: what it returns. Conditions: the values read as a shop, batches and numbers.
-/
import Derived.Test.YtpkjmnfgpbliaaaZOpen2
namespace Go.Proofs.Ytpkjmnfgpbliaaa
open Go.RowKit
set_option linter.unusedSimpArgs false
set_option linter.unusedVariables false

/-- What open comes to: the error, or a shop in new memory whose map is new and empty. -/
def OpenEnds (s : Shp) (l : List Bat) (st : List Int) (sl lv : Value) (w : World) (e : Ending) (w' : World) : Prop :=
  Below w.heap.size w w' ∧ ((¬ openErr s l st = 0 ∧ e = .returned (.tuple #[.pointer none, .int .i64 (openErr s l st)])) ∨
    (openErr s l st = 0 ∧ ∃ P M, e = .returned (.tuple #[.pointer (some ⟨P, 0, none⟩), .int .i64 0]) ∧ ShopAt w' P M sl lv s ∧ w'.heap[M]? = some (.map #[] 0) ∧ w.heap.size ≤ M))

/-- At the door behind a panic: the error is returned. -/
theorem open_door (s : Shp) (l : List Bat) (st : List Int) (sl lv p e : Value) (x : Int) (w W : World) (tmps : Array Value) (hW : OpenSt w W s sl p e) (hx : openErr s l st = x) (hx0 : ¬ x = 0)
    (h6 : tmps.getD 6 undef = .pointer (some ⟨w.heap.size + 1, 0, none⟩)) (h7 : tmps.getD 7 undef = .pointer (some ⟨w.heap.size + 2, 0, none⟩)) :
    bodyPostD Try.prog Try.f55 (OpenEnds s l st sl lv w) (.panic [{ v := .iface 31 (.int .i64 x), recovered := false }])
      { tmps := tmps, defers := [{ target := .fn (.func 82) #[.pointer (some ⟨w.heap.size + 1, 0, none⟩), .pointer (some ⟨w.heap.size + 2, 0, none⟩)], args := #[] }] } W := by
  refine leaves_cons (f := 82) (args := #[.pointer (some ⟨w.heap.size + 1, 0, none⟩), .pointer (some ⟨w.heap.size + 2, 0, none⟩)]) (by simp) (by simp [go_sem]) ?_
  refine (open1_catch _ _ p e x [] W w.heap.size (by omega) (by omega) (by omega) hW.cp hW.ce hW.fp hW.fe).mono ?_
  rintro r u' w'' ⟨rfl, rfl, h1, h2, h3⟩
  have hr : (results Try.f55 tmps).run Try.prog w'' = .ok (.tuple #[.pointer none, .int .i64 x]) w'' := by
    have h6' : tmps[6]?.getD undef = .pointer (some ⟨w.heap.size + 1, 0, none⟩) := by simpa using h6
    have h7' : tmps[7]?.getD undef = .pointer (some ⟨w.heap.size + 2, 0, none⟩) := by simpa using h7
    simp [results, Try.results55, go_sem, h6', h7', h1, h2]
  exact ⟨_, hr, hW.hb.trans h3, .inl ⟨by omega, by rw [hx]⟩⟩

theorem open_exit (s : Shp) (l : List Bat) (st : List Int) (sl lv p e : Value) (P M : Nat) (w W : World) (tmps : Array Value) (hW : OpenSt w W s sl (.pointer (some ⟨P, 0, none⟩)) (.int .i64 0)) (hx : openErr s l st = 0)
    (hS : ShopAt W P M sl lv s) (hM : W.heap[M]? = some (.map #[] 0)) (hMw : w.heap.size ≤ M)
    (h6 : tmps.getD 6 undef = .pointer (some ⟨w.heap.size + 1, 0, none⟩)) (h7 : tmps.getD 7 undef = .pointer (some ⟨w.heap.size + 2, 0, none⟩)) :
    bodyPostD Try.prog Try.f55 (OpenEnds s l st sl lv w) .ret
      { tmps := tmps, defers := [{ target := .fn (.func 82) #[.pointer (some ⟨w.heap.size + 1, 0, none⟩), .pointer (some ⟨w.heap.size + 2, 0, none⟩)], args := #[] }] } W := by
  refine leaves_cons (f := 82) (args := #[.pointer (some ⟨w.heap.size + 1, 0, none⟩), .pointer (some ⟨w.heap.size + 2, 0, none⟩)]) (by simp) (by simp [go_sem]) ?_
  refine (open1_idle _ _ W).mono ?_
  rintro r u' w'' ⟨rfl, rfl, rfl⟩
  have hr : (results Try.f55 tmps).run Try.prog w'' = .ok (.tuple #[.pointer (some ⟨P, 0, none⟩), .int .i64 0]) w'' := by
    have h6' : tmps[6]?.getD undef = .pointer (some ⟨w.heap.size + 1, 0, none⟩) := by simpa using h6
    have h7' : tmps[7]?.getD undef = .pointer (some ⟨w.heap.size + 2, 0, none⟩) := by simpa using h7
    simp [results, Try.results55, go_sem, h6', h7', hW.cp, hW.ce]
  exact ⟨_, hr, hW.hb, .inr ⟨hx, P, M, rfl, hS, hM, hMw⟩⟩

theorem ShopAt.below {w w' : World} {P M : Nat} {sl lv : Value} {s : Shp} (h : ShopAt w P M sl lv s) (hb : Below w.heap.size w w') : ShopAt w' P M sl lv s := by
  have h0 := h.lt
  exact ⟨(hb.cell h0).trans h.c0, (hb.cell h0).trans h.c1, (hb.cell h0).trans h.c2, (hb.cell h0).trans h.c3, (hb.cell h0).trans h.c4, (hb.cell h0).trans h.c5, Nat.lt_of_lt_of_le h0 hb.size, h.ltM⟩

theorem heap_new (w : World) (o : Obj) : (w.alloc o).heap[w.heap.size]? = some o := by
  show (w.heap.push o)[w.heap.size]? = _
  simp
theorem ShopAt.set {w : World} {P M : Nat} {sl lv : Value} {s : Shp} (h : ShopAt w P M sl lv s) (q o : Nat) (v : Value) (hq : ¬ q = P) : ShopAt (w.setCell ⟨q, o, none⟩ v) P M sl lv s :=
  ⟨setO hq h.c0, setO hq h.c1, setO hq h.c2, setO hq h.c3, setO hq h.c4, setO hq h.c5, by simpa using h.lt, h.ltM⟩

theorem open_made (w w3 : World) (s : Shp) (sl lv : Value) (h : OpenSt w w3 s sl (.pointer none) (.int .i64 0)) :
    ∃ W4, ((w3.setCell ⟨w.heap.size + 1, 0, none⟩ (.pointer (some ⟨w3.heap.size + 1, 0, none⟩))).alloc (.map #[] 0)).alloc (.cells #[sl, .int .i64 s.keep.lo, .int .i64 s.keep.hi, .int .i64 s.rinse, lv, .map (some w3.heap.size)] 106) = W4 ∧
      OpenSt w W4 s sl (.pointer (some ⟨w3.heap.size + 1, 0, none⟩)) (.int .i64 0) ∧ ShopAt W4 (w3.heap.size + 1) w3.heap.size sl lv s ∧ W4.heap[w3.heap.size]? = some (.map #[] 0) := by
  have h1 := h.setP (.pointer (some ⟨w3.heap.size + 1, 0, none⟩))
  have hs1 : (w3.setCell ⟨w.heap.size + 1, 0, none⟩ (.pointer (some ⟨w3.heap.size + 1, 0, none⟩))).heap.size = w3.heap.size := by simp
  generalize w3.setCell ⟨w.heap.size + 1, 0, none⟩ (.pointer (some ⟨w3.heap.size + 1, 0, none⟩)) = w4 at *
  have h2 := h1.below ((Below.refl _ w4).alloc (Nat.le_refl _) (.map #[] 0))
  have hm : (w4.alloc (.map #[] 0)).heap[w3.heap.size]? = some (.map #[] 0) := by rw [← hs1]; exact heap_new w4 _
  have hs2 : (w4.alloc (.map #[] 0)).heap.size = w3.heap.size + 1 := by simp; omega
  generalize w4.alloc (.map #[] 0) = w5 at *
  refine ⟨_, rfl, h2.below ((Below.refl _ w5).alloc (Nat.le_refl _) _), ⟨?_, ?_, ?_, ?_, ?_, ?_, ?_, by omega⟩, ?_⟩
  iterate 6 (· rw [← hs2]; simp)
  · simp; omega
  · rw [Below.heap_alloc _ _ _ (by omega)]; exact hm

theorem batsErr_bad (s : Shp) (l : List Bat) (k : Nat) (h : k < l.length) (he : ¬ batErr s l[k] = 0) (hg : batsErr s (l.drop k) = batsErr s l) : batsErr s l = batErr s l[k] := by
  rw [← hg, List.drop_eq_getElem_cons h, batsErr, if_neg he]
theorem batsErr_ok (s : Shp) (l : List Bat) (k : Nat) (h : k < l.length) (he : batErr s l[k] = 0) (hg : batsErr s (l.drop k) = batsErr s l) : batsErr s (l.drop (k + 1)) = batsErr s l := by
  rw [← hg, List.drop_eq_getElem_cons h, batsErr, if_pos he]

set_option maxHeartbeats 4000000 in
theorem open_any (sv lv tv : Value) (s : Shp) (l : List Bat) (st : List Int) (sl : Value) (w : World) (hs : IsCols w sl s.cols) (hsv : sv = .agg #[sl, .int .i64 s.keep.lo, .int .i64 s.keep.hi, .int .i64 s.rinse])
    (hl : IsBats w lv l) (ht : IsInts w tv st) :
    Calls Try.prog 55 #[sv, lv, tv] w (OpenEnds s l st sl lv w) := by
  subst hsv
  obtain ⟨a, c, rfl, hlc⟩ := hs.form
  obtain ⟨la, lc, rfl, hllc⟩ := hl.form
  have hlen := hs.len
  have hllen := hl.len
  have hmf : ∀ (fn : Fn) (first cap : Array Value) (w : World), (Instr.makeFunc fn first cap).run Try.prog w = .ok (.func fn first cap) w := fun _ _ _ _ => rfl
  have hmm := @run_makeMap Try.prog
  obtain ⟨W0, eW, h0⟩ := openSt_start w s (.slice a s.cols.length c)
  have H_eW := Lib.hid eW; clear eW
  go_enter_defers Try.func55, Try.ntmps55
  go_wp2_with fail
  rw [H_eW.out]
  refine (check_any _ s W0 ⟨_, rfl, hs.below h0.hb⟩).mono ?_
  rintro e w1 ⟨rfl, hb1⟩
  have h1 := h0.below hb1
  rw [show tup3 (chk s) = .tuple #[.int .i64 (chk s).1, .int .i64 (chk s).2.1, .int .i64 (chk s).2.2] from rfl]
  have hoe : openErr s l st = if ¬ (chk s).2.2 = 0 then (chk s).2.2 else if outB 0 ((s.cols.length : Int) - 1) st then 4 else if 7 < l.length then 3 else batsErr s l := rfl
  generalize (chk s).1 = p1
  generalize (chk s).2.1 = p2
  generalize (chk s).2.2 = ce at *
  obtain ⟨c0, c1, c2, c3, cp, cce, fp, fe, hbw, hsz⟩ := h1
  have h1 : OpenSt w w1 s (.slice a s.cols.length c) (.pointer none) (.int .i64 0) := ⟨c0, c1, c2, c3, cp, cce, fp, fe, hbw, hsz⟩
  have H_hoe := Lib.hid hoe; clear hoe; have H_hbw := Lib.hid hbw; clear hbw; have H_h1 := Lib.hid h1; clear h1
  clear hb1
  by_cases hce : ce = 0
  · subst hce
    go_wp2_with fail
    refine (must_true _ _).mono ?_
    rintro e w2 ⟨rfl, rfl⟩
    obtain ⟨w2, e2, h2⟩ : ∃ w2, w1.setCell ⟨w.heap.size + 1 + 1, 0, none⟩ (.int .i64 0) = w2 ∧ OpenSt w w2 s (.slice a s.cols.length c) (.pointer none) (.int .i64 0) := ⟨_, rfl, H_h1.out.setE _⟩
    rw [e2]
    clear e2 c0 c1 c2 c3 cp cce fp fe
    obtain ⟨c0, c1, c2, c3, cp, cce, fp, fe, hbw2, hsz2⟩ := id h2
    have H_hbw2 := Lib.hid hbw2; clear hbw2; have H_h2 := Lib.hid h2; clear h2
    go_wp2_with fail
    refine (out_any _ _ _ _ w2 (ht.below H_hbw2.out)).mono ?_
    rintro e w3 ⟨rfl, hb3⟩
    have h3 := H_h2.out.below hb3
    clear hb3 c0 c1 c2 c3 cp cce fp fe
    obtain ⟨c0, c1, c2, c3, cp, cce, fp, fe, hbw3, hsz3⟩ := id h3
    have H_hbw3 := Lib.hid hbw3; clear hbw3; have H_h3 := Lib.hid h3; clear h3
    by_cases t1 : outB 0 ((s.cols.length : Int) - 1) st = true
    · go_wp2_with fail
      refine (must_false _ _).mono ?_
      rintro e w4 ⟨rfl, rfl⟩
      exact open_door s l st _ _ _ _ 4 w _ _ H_h3.out (by rw [H_hoe.out]; simp [t1]) (by omega) rfl rfl
    · have t1 : outB 0 ((s.cols.length : Int) - 1) st = false := by simpa using t1
      go_wp2_with fail
      refine (must_true _ _).mono ?_
      rintro e w4 ⟨rfl, rfl⟩
      by_cases t2 : l.length ≤ 7
      · have t2' : decide ((l.length : Int) ≤ 7) = true := by simp; omega
        go_wp2_with fail
        refine (must_true _ _).mono ?_
        rintro e w5 ⟨rfl, rfl⟩
        have hoe' : openErr s l st = batsErr s l := by rw [H_hoe.out]; simp [t1]; omega
        have H_hoe' := Lib.hid hoe'; clear hoe'
        have z1 : w.heap.size + 1 < w3.heap.size := by omega
        have z2 : w.heap.size + 1 < w3.heap.size + 1 := by omega
        go_wp2_with fail
        obtain ⟨W4, e4, h4, hS4, hM4⟩ := open_made w w3 s (.slice a s.cols.length c) (.slice la l.length lc) H_h3.out
        rw [e4]
        have hMw := H_hbw3.out.size
        generalize w3.heap.size = M at *
        clear e4 c0 c1 c2 c3 cp cce fp fe
        have H_h4 := Lib.hid h4; clear h4; have H_hS4 := Lib.hid hS4; clear hS4; have H_hM4 := Lib.hid hM4; clear hM4
        go_loopw [40] (fun i wr => ∃ k : Nat, k ≤ l.length ∧ i = .int .i64 k ∧ batsErr s (l.drop k) = batsErr s l ∧ Below W4.heap.size W4 wr) (fun i _ => l.length - (intOf i).toNat)
        case atStart => exact ⟨0, by omega, rfl, rfl, Below.refl _ _⟩
        case round =>
          obtain ⟨k, hk, rfl, hgo, hbr⟩ := hrel
          have h5 := H_h4.out.below hbr
          have hS5 := H_hS4.out.below hbr
          have hM5 : wr.heap[M]? = some (.map #[] 0) := (hbr.block M (by have := H_hS4.out.lt; have := H_hS4.out.ltM; omega)).trans H_hM4.out
          obtain ⟨c0, c1, c2, c3, cp, cce, fp, fe, hbw5, hsz5⟩ := id h5
          have d0 := hS5.c0
          have dlt := hS5.lt
          by_cases hlt : k < l.length
          · obtain ⟨b, off, rfl, hbb, g0, g1⟩ := hl.at k hlt
            have q0 := (hbw5.cell (p := ⟨b, off + k * 2, none⟩) hbb).trans g0
            have q1 := (hbw5.cell (p := ⟨b, off + k * 2 + 1, none⟩) hbb).trans g1
            clear g0 g1
            have z3 : w.heap.size + 1 < wr.heap.size := by omega
            have H_hgo := Lib.hid hgo; clear hgo; have H_hbr := Lib.hid hbr; clear hbr; have H_h5 := Lib.hid h5; clear h5; have H_hS5 := Lib.hid hS5; clear hS5; have H_hM5 := Lib.hid hM5; clear hM5; have H_hbw5 := Lib.hid hbw5; clear hbw5
            go_wp2_with fail
            refine (look_any s l[k] (M + 1) _ _ _ (by simp; omega) (allocO d0 _) hlen).mono ?_
            rintro e w6 ⟨rfl, hb6⟩
            have hb6 := below_new hb6
            by_cases hbe : batErr s l[k] = 0
            · rw [show lookEnd (batErr s l[k]) = .returned (.tuple #[]) from by simp [lookEnd, hbe]]
              have hgo' := batsErr_ok s l k hlt hbe H_hgo.out
              have hbr' := H_hbr.out.trans (hb6.mono H_hbr.out.size)
              have H_hbe := Lib.hid hbe; clear hbe; have H_hgo' := Lib.hid hgo'; clear hgo'; have H_hbr' := Lib.hid hbr'; clear hbr'; have H_hb6 := Lib.hid hb6; clear hb6
              go_wp2_with fail
              go_roundw
              case rel => exact ⟨k + 1, by omega, by go_num, H_hgo'.out, H_hbr'.out⟩
              case measure => simp [intOf]; omega
            · rw [show lookEnd (batErr s l[k]) = .panicked [{ v := .iface 31 (.int .i64 (batErr s l[k])), recovered := false }] from by simp [lookEnd, hbe]]
              exact open_door s l st _ _ _ _ _ w _ _ (H_h5.out.below hb6) (by rw [H_hoe'.out]; exact batsErr_bad s l k hlt hbe H_hgo.out) hbe rfl rfl
          · have H_hgo := Lib.hid hgo; clear hgo; have H_hbr := Lib.hid hbr; clear hbr; have H_h5 := Lib.hid h5; clear h5; have H_hS5 := Lib.hid hS5; clear hS5; have H_hM5 := Lib.hid hM5; clear hM5; have H_hbw5 := Lib.hid hbw5; clear hbw5
            go_wp2
            obtain rfl : k = l.length := by omega
            have hz : openErr s l st = 0 := by rw [H_hoe'.out, ← H_hgo.out]; simp [batsErr]
            refine open_exit s l st _ _ (.pointer none) (.int .i64 0) (M + 1) M w _ _ ((H_h5.out.setP _).setE _) hz ((H_hS5.out.set _ _ _ (by omega)).set _ _ _ (by omega)) ?_ hMw rfl rfl
            rw [Below.heap_setCell _ _ _ _ (by simp; omega), Below.heap_setCell _ _ _ _ (by simp; omega)]
            exact H_hM5.out
      · have t2' : decide ((l.length : Int) ≤ 7) = false := by simp; omega
        go_wp2_with fail
        refine (must_false _ _).mono ?_
        rintro e w5 ⟨rfl, rfl⟩
        exact open_door s l st _ _ _ _ 3 w _ _ H_h3.out (by rw [H_hoe.out]; simp [t1]; omega) (by omega) rfl rfl
  · have hcb : (ce == 0) = false := by simpa using hce
    go_wp2_with fail
    refine (must_false _ _).mono ?_
    rintro e w2 ⟨rfl, rfl⟩
    exact open_door s l st _ _ _ _ ce w _ _ (H_h1.out.setE _) (by rw [H_hoe.out, if_pos hce]) hce rfl rfl
end Go.Proofs.Ytpkjmnfgpbliaaa
