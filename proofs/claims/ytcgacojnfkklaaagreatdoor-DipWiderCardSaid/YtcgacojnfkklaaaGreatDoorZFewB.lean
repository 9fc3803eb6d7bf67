/-
  The dips with one more of each kind: what the loop of Fewest goes over. Conditions: none.
-/
import Derived.Test.YtcgacojnfkklaaaGreatDoorZKeyD
import Derived.Test.YtcgacojnfkklaaaGreatDoorZPrH
namespace Go.Proofs.YtcgacojnfkklaaaGreatDoor
open Go.RowKit
set_option linter.unusedSimpArgs false
set_option linter.unusedVariables false
attribute [local simp] codeY_skip codeY_label codeY_exit codeY_ret codeY_scope codeY_seq thenY_n thenY_e thenY_r codeY_block blkY_n blkY_r blkY_e codeY_cond condY_t condY_f codeY_regT codeY_regF regY_some endY_eq codeY_loop againY_n againY_e againY_r opsY_nil opsY_cons opsYW_t opsYW_f opsYY_n opsYY_s opsYS_s opsYV_s stepE_eq yielded1 keepY X.known valX valsX backY adrIn exA adrOf
theorem eqOk123 : EqOk Tryz.prog 123 341 := by
  intro xs ys hx hy w x y
  obtain ⟨a0, t, rfl, hx0⟩ := shape_int (k := 85) hx
  obtain ⟨a1, t, rfl, hx1⟩ := shape_int (k := 21) hx0
  obtain ⟨a2, t, rfl, hx2⟩ := shape_int (k := 5) hx1
  obtain ⟨a3, t, rfl, hx3⟩ := shape_int (k := 1) hx2
  obtain ⟨a4, t, rfl, hx4⟩ := shape_int (k := 0) hx3
  obtain rfl := shape_nil hx4
  obtain ⟨b0, t, rfl, hy0⟩ := shape_int (k := 85) hy
  obtain ⟨b1, t, rfl, hy1⟩ := shape_int (k := 21) hy0
  obtain ⟨b2, t, rfl, hy2⟩ := shape_int (k := 5) hy1
  obtain ⟨b3, t, rfl, hy3⟩ := shape_int (k := 1) hy2
  obtain ⟨b4, t, rfl, hy4⟩ := shape_int (k := 0) hy3
  obtain rfl := shape_nil hy4
  have hm : Tryz.prog.eqGuardType Tryz.prog.depth 123 = false := by kernel_rfl
  have hu := Tryz.underlying123
  have h3 := Tryz.underlying3
  obtain ⟨fi, hf, _⟩ := tyOk3.inf
  have hc3 : Tryz.prog.cellsOf 3 = 1 := by kernel_rfl
  have e : (Op.equalIn 10000 123 (.agg #[.int .i64 a0, .int .i64 a1, .int .i64 a2, .int .i64 a3, .int .i64 a4]) (.agg #[.int .i64 b0, .int .i64 b1, .int .i64 b2, .int .i64 b3, .int .i64 b4])).run Tryz.prog w = .ok ([Value.int .i64 a0, .int .i64 a1, .int .i64 a2, .int .i64 a3, .int .i64 a4].map codeV == [Value.int .i64 b0, .int .i64 b1, .int .i64 b2, .int .i64 b3, .int .i64 b4].map codeV) w := by
    rw [run_equalIn_array w 9999 _ _ hu hf]
    simp [Op.eqItems, hc3, go_sem, h3, codeV, List.range_succ]
    by_cases q0 : a0 = b0 <;> by_cases q1 : a1 = b1 <;> by_cases q2 : a2 = b2 <;> by_cases q3 : a3 = b3 <;> by_cases q4 : a4 = b4 <;> simp [q0, q1, q2, q3, q4]
  constructor
  · simp only [Sem.run_bind]
    rw [run_eqGuard_agg _ _ _ _ _ _ _ hm]
    simp only [Result.andThen_ok, run_eql_struct]
    rw [e]; rfl
  · simp only [Sem.run_bind]
    rw [run_eqGuard_agg _ _ _ _ _ _ _ hm]
    simp only [Result.andThen_ok, run_neq_struct]
    rw [e]; rfl
structure Cnt where
  a : Int
  b : Int
  c : Int
  d : Int
  e : Int
def rCnt : Row Cnt := ⟨5, fun x => [DI x.a, DI x.b, DI x.c, DI x.d, DI x.e], fun d => match d with | [.v (.int .i64 a), .v (.int .i64 b), .v (.int .i64 c), .v (.int .i64 d), .v (.int .i64 e)] => some ⟨a, b, c, d, e⟩ | _ => none, fun _ => rfl, fun d x h => by
  split at h
  · cases h; exact LImp.refl _
  · cases h⟩
theorem rCnt_enc (x : Cnt) : rCnt.enc x = [DI x.a, DI x.b, DI x.c, DI x.d, DI x.e] := rfl
theorem rCnt_dec (a b c d e : Int) : rCnt.dec [DI a, DI b, DI c, DI d, DI e] = some ⟨a, b, c, d, e⟩ := rfl
def Cnt.l (x : Cnt) : List Int := [x.a, x.b, x.c, x.d, x.e]
def cWith : Cod (Int × Cnt) := ⟨fun p => .fn 101 [] [.dat 1 [[DI p.1]] 0 0, .dat 5 [[DI p.2.a, DI p.2.b, DI p.2.c, DI p.2.d, DI p.2.e]] 0 0], fun d => match d with | .fn 101 [] [.dat 1 [[.v (.int .i64 n)]] 0 0, .dat 5 [[.v (.int .i64 a), .v (.int .i64 b), .v (.int .i64 c), .v (.int .i64 d), .v (.int .i64 e)]] 0 0] => some (n, ⟨a, b, c, d, e⟩) | _ => none, fun d x h => by
  split at h
  · cases h; exact DImp.refl _
  · cases h⟩
theorem cWith_enc (p : Int × Cnt) : cWith.enc p = .fn 101 [] [.dat 1 [[DI p.1]] 0 0, .dat 5 [[DI p.2.a, DI p.2.b, DI p.2.c, DI p.2.d, DI p.2.e]] 0 0] := rfl
def kp71 (r : Nat) : List (Nat × Option Nat) := match r with
  | 0 => [(2, none), (3, none)]
  | 1 => [(4, none)]
  | _ => []
def s71 : List D → Option D := sp2 (cAgg rCnt) cInt cWith fun x n => some (n, x)
theorem ok71 : ∀ ds d, s71 ds = some d → PureC Tryz.prog 71 ds d := ok_sp2 fun x n r hr => by
  cases hr
  refine pure_of_call (mkCx_ok del_nil 6 kp71 []) Tryz.func71 rfl rfl (Nat.le_of_ble_eq_true rfl) (by kernel_rfl) ?_
  rw [Tryz.results71]
  simp [kp71, rCnt_enc, cWith_enc]
theorem call71 (xs : Array Value) (w : World) : (callFunc 71 xs).run Tryz.prog w = .ok (.enter 71 xs) w := by kernel_rfl
def kp101 (r : Nat) : List (Nat × Option Nat) := match r with
  | 0 => [(0, none), (2, none), (6, none), (7, none)]
  | 1 => [(0, none), (2, none), (6, none), (7, none), (8, none)]
  | 2 => [(0, none), (2, none), (4, none), (6, none), (7, none)]
  | 3 => [(0, none), (2, none), (4, none), (5, none), (6, none), (7, none)]
  | 4 => [(0, none), (2, none), (4, none), (5, none), (6, none), (7, none)]
  | 5 => [(0, none), (2, none), (6, none), (7, none), (20, none)]
  | 6 => [(0, none), (2, none), (6, none), (7, none)]
  | _ => []
def withV (x : Cnt) (k : Nat) : List Value := [.int .i64 k, .agg ((x.l.set k (x.l.getD k 0 + 1)).map (.int .i64)).toArray]
def withL (n : Nat) (x : Cnt) : List (List Value) := (List.range n).map (withV x)
theorem take_snoc {α : Type} {l : List α} {j : Nat} {v : α} (h : l[j]? = some v) : l.take j ++ [v] = l.take (j + 1) := by
  rw [List.take_add_one, h]; rfl
theorem take_pre {α : Type} {l : List α} {j : Nat} {v : α} (h : l[j]? = some v) : l.take j ++ [v] <+: l := by
  rw [take_snoc h]; exact List.take_prefix _ _
theorem withL_at {n j : Nat} (x : Cnt) (h : j < n) : (withL n x)[j]? = some (withV x j) := by simp [withL, h]
def s101 : List D → Option (List (List Value)) := fun ds => match ds with
  | [.dat 1 [[.v (.int .i64 n)]] 0 0, .dat 5 [[.v (.int .i64 a), .v (.int .i64 b), .v (.int .i64 c), .v (.int .i64 d), .v (.int .i64 e)]] 0 0] => if (0 ≤ n ∧ n ≤ 5) ∧ (0 ≤ a ∧ a < 99) ∧ (0 ≤ b ∧ b < 99) ∧ (0 ≤ c ∧ c < 99) ∧ (0 ≤ d ∧ d < 99) ∧ (0 ≤ e ∧ e < 99) then some (withL n.toNat ⟨a, b, c, d, e⟩) else none
  | _ => none
set_option maxHeartbeats 2000000 in
theorem ok101 : ∀ ds r, s101 ds = some r → SeqC Tryz.prog 101 ds r := by
  intro ds r hr
  unfold s101 at hr
  split at hr
  · rename_i n a b c d e
    split at hr
    · rename_i hc
      cases hr
      obtain ⟨⟨n0, n1⟩, ⟨a0, a1⟩, ⟨b0, b1⟩, ⟨c0, c1⟩, ⟨d0, d1⟩, ⟨e0, e1⟩⟩ := hc
      obtain ⟨N, rfl⟩ : ∃ N : Nat, n = N := ⟨n.toNat, by omega⟩
      rw [Int.toNat_natCast]
      refine seq_of_code (mkCx_ok del_nil 22 kp101 []) Tryz.func101 rfl rfl rfl (Nat.le_of_ble_eq_true rfl) (by kernel_rfl) fun ln ad had => ?_
      obtain ⟨⟨b1', o1'⟩, ⟨b2', o2'⟩, rfl⟩ : ∃ p q, ad = [p, q] := by
        match ad, had with
        | [p, q], _ => exact ⟨p, q, rfl⟩
      simp [kp101]
      refine loopY_by _ _ _ _ (fun k s' => ∃ j : Nat, j + k = N ∧ s' = ⟨⟨[(0, .d (.v (.func (.yield ln) #[] #[]))), (2, .d (.datA b2' o2' 5 [[DI a, DI b, DI c, DI d, DI e]] 0 0)), (6, .d (DI N)), (7, .d (DI j))], [], [], []⟩, (withL N ⟨a, b, c, d, e⟩).take j, false⟩) N ⟨0, by omega, rfl⟩ ?_
      rintro k s' ⟨j, hjk, rfl⟩
      by_cases hj : j < N
      · have hp := take_pre (withL_at (n := N) ⟨a, b, c, d, e⟩ hj)
        have hs := take_snoc (withL_at (n := N) ⟨a, b, c, d, e⟩ hj)
        have hjN : (j : Int) < N := by omega
        have w1 := wrap_small ((j : Int) + 1) (by omega) (by omega)
        have wa := wrap_small (a + 1) (by omega) (by omega)
        have wb := wrap_small (b + 1) (by omega) (by omega)
        have wc := wrap_small (c + 1) (by omega) (by omega)
        have wd := wrap_small (d + 1) (by omega) (by omega)
        have we := wrap_small (e + 1) (by omega) (by omega)
        have hfin : ∃ m, m < k ∧ ∃ j', j' + m = N ∧ j + 1 = j' := ⟨k - 1, by omega, j + 1, by omega, rfl⟩
        rcases (by omega : j = 0 ∨ j = 1 ∨ j = 2 ∨ j = 3 ∨ j = 4) with rfl | rfl | rfl | rfl | rfl
        · simp [withV, Cnt.l] at hp hs hjN w1
          simp [kp101, hjN, hp, hs, w1, wa]
          exact ⟨List.take_prefix _ _, k - 1, by omega, 1, by omega, by omega, rfl⟩
        · simp [withV, Cnt.l] at hp hs hjN w1
          simp [kp101, hjN, hp, hs, w1, wb]
          exact ⟨List.take_prefix _ _, k - 1, by omega, 2, by omega, by omega, rfl⟩
        · simp [withV, Cnt.l] at hp hs hjN w1
          simp [kp101, hjN, hp, hs, w1, wc]
          exact ⟨List.take_prefix _ _, k - 1, by omega, 3, by omega, by omega, rfl⟩
        · simp [withV, Cnt.l] at hp hs hjN w1
          simp [kp101, hjN, hp, hs, w1, wd]
          exact ⟨List.take_prefix _ _, k - 1, by omega, 4, by omega, by omega, rfl⟩
        · simp [withV, Cnt.l] at hp hs hjN w1
          simp [kp101, hjN, hp, hs, w1, we]
          exact ⟨List.take_prefix _ _, k - 1, by omega, 5, by omega, by omega, rfl⟩
      · have hjN : ¬ (j : Int) < N := by omega
        have hjn : j = N := by omega
        subst hjn
        have hl : (withL j ⟨a, b, c, d, e⟩).take j = withL j ⟨a, b, c, d, e⟩ := List.take_of_length_le (by simp [withL])
        simp [kp101, hl]
    · cases hr
  · cases hr
end Go.Proofs.YtcgacojnfkklaaaGreatDoor
