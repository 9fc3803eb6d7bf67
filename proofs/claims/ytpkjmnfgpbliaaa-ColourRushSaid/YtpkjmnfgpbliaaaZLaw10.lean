/-
  The law of the further batch (ColourRush): it returns true. Conditions: none.
-/
import Derived.Test.YtpkjmnfgpbliaaaZRushLaw
namespace Go.Proofs.Ytpkjmnfgpbliaaa
open Go.RowKit
set_option linter.unusedSimpArgs false
set_option linter.unusedVariables false

/-- A further batch, an order, and a place. -/
structure Rsh where
  bat : Bat
  ord : List Int
  place : Int
def rRsh : Row Rsh := ⟨4, fun x => [DI x.bat.c, DI x.bat.g, .sl 1 (x.ord.map (rK .u8).enc), .v (.int .u8 x.place)], fun d => match d with
  | [.v (.int .i64 a), .v (.int .i64 b), y, .v (.int .u8 p)] => ((cList (rK .u8)).dec y).map fun o => ⟨⟨a, b⟩, o, p⟩
  | _ => none, fun x => by simp [DI, cList_dec (rK .u8) x.ord 1 rfl], fun d x h => by
  split at h
  · simp only [Option.map_eq_some_iff] at h
    obtain ⟨o, ho, rfl⟩ := h
    exact limp_cons (DImp.refl _) (limp_cons (DImp.refl _) (limp_cons ((cList (rK .u8)).ed _ _ ho) (LImp.refl _)))
  · cases h⟩
theorem rRsh_enc (x : Rsh) : rRsh.enc x = [DI x.bat.c, DI x.bat.g, .sl 1 (x.ord.map (rK .u8).enc), .v (.int .u8 x.place)] := rfl
def rshOk (x : Rsh) : Prop := byteOk x.ord ∧ 0 ≤ x.place ∧ x.place ≤ 255
instance (x : Rsh) : Decidable (rshOk x) := inferInstanceAs (Decidable (_ ∧ _))
/-- There is room for a further batch. -/
def batsFit (l : List Bat) : Prop := (l.length + 1) * 16 ≤ 140737488355328
instance (l : List Bat) : Decidable (batsFit l) := inferInstanceAs (Decidable (_ ≤ _))
def pr : List (Nat × (List D → Option D)) := (21, sAwake) :: (36, s36) :: (26, sRush) :: (41, s41) :: o2
theorem depr : DelOk Try.prog (delOf pr) := del_cons (del_cons (del_cons (del_cons deo2 call41' ok41) call26' okRush) call36' ok36) call21c ok21
def kp10 (r : Nat) : List (Nat × Option Nat) := match r with
  | 0 => [(1, none), (3, none), (5, none)]
  | 1 => [(1, none), (3, none), (5, none), (23, none)]
  | 2 => [(6, none)]
  | 3 => [(1, none), (3, none), (5, none), (7, none), (8, none)]
  | 4 => [(1, none), (3, none), (5, none), (7, none), (8, none), (9, none), (10, none), (11, none)]
  | 5 => [(1, none), (3, none), (5, none), (7, none), (8, none), (9, none), (10, none), (11, none), (12, none)]
  | 6 => [(1, none), (3, none), (5, none), (7, none), (8, none), (9, none), (10, none), (11, none), (12, none), (13, none)]
  | 7 => [(1, none), (3, none), (5, none), (7, none), (8, none), (9, none), (10, none), (11, none), (12, none), (13, none), (65, none)]
  | 8 => [(6, none)]
  | 9 => [(9, none), (10, none), (12, none), (13, none), (103, none)]
  | 10 => [(6, none)]
  | 11 => [(6, none)]
  | _ => []
theorem bats_app (l : List Bat) (a b : Int) : (cList rBat).dec (.sl 2 (l.map rBat.enc ++ [[DI a, DI b]])) = some (l ++ [⟨a, b⟩]) := by
  have := rBat_decL (l ++ [⟨a, b⟩])
  rw [List.map_append] at this
  exact this
theorem withL_err {s : Shp} {l : List Bat} {o : List Int} {b : Bat} (h1 : batsErr s l = 0) (h2 : batErr s b = 0) (ho : outB 0 ((l.length : Int) - 1) o = false) (k : Nat) : batsErr s (withL l o b k) = 0 := by
  apply batsErr_all
  intro x hx
  have hput : ∀ x ∈ putL l o, batErr s x = 0 := fun x hx => by
    obtain ⟨i, hi, rfl⟩ := List.getElem_of_mem hx
    exact batErr_of s _ (okBat_all (putL_okR ho h1) i hi)
  unfold withL at hx
  simp only [List.mem_append, List.mem_singleton] at hx
  rcases hx with (hx | rfl) | hx
  · exact hput x (List.mem_of_mem_take hx)
  · exact h2
  · exact hput x (List.mem_of_mem_drop hx)
theorem bats_app' (l : List Bat) (a b : Int) : (cList rBat).dec (D.sl 2 (List.map rBat.enc l ++ [[DI a, DI b]])) = some (l ++ [⟨a, b⟩]) := bats_app l a b
theorem rBat_dec1 (a b : Int) : rBat.dec [DI a, DI b] = some ⟨a, b⟩ := rfl
def s10 : List D → Option D := sp3 (cAgg rShp) (cList rBat) (cAgg rRsh) cBool fun s l x => if namesOk s ∧ batsFit l ∧ rshOk x then some true else none
set_option maxHeartbeats 8000000 in
theorem ok10 : ∀ ds d, s10 ds = some d → PureC Try.prog 10 ds d := ok_sp3 fun s l x r hr => by
  split at hr
  · rename_i hc
    cases hr
    obtain ⟨hs, hl16, hx, hp0, hp1⟩ := hc
    unfold batsFit at hl16
    refine pure_of_call (mkCx_ok depr 124 kp10 []) Try.func10 rfl rfl (Nat.le_of_ble_eq_true rfl) (by kernel_rfl) ?_
    rw [Try.results10]
    obtain ⟨⟨bc, bg⟩, x, P⟩ := x
    simp only at hx hp0 hp1
    have hl1 : l.length ≤ 140737488355328 ∧ l.length * 16 ≤ 140737488355328 := by omega
    have hl2 : l.length + 1 ≤ 140737488355328 := by omega
    by_cases h1 : validE s (l ++ [⟨bc, bg⟩]) = 0
    · obtain ⟨h2, h7, hbe⟩ := valid_parts h1
      obtain ⟨hb1, hb2⟩ := batsErr_append s l ⟨bc, bg⟩ hbe
      have h7' : l.length ≤ 6 := by simp at h7; omega
      have hg := good_of_chk h2
      have hn0 := hg.n0
      have hne : ¬ (s.cols.length : Int) = 0 := by omega
      have hne' : ¬ s.cols = [] := fun h => by rw [h] at hn0; simp at hn0
      have hlen : s.cols.length < 1000000 := by have := hg.n1; omega
      have htb := turn_bd hx 0
      obtain ⟨B, hBe⟩ : ∃ B : Nat, (turnV x 0).tmod s.cols.length = B := ⟨((turnV x 0).tmod s.cols.length).toNat, by rw [Int.toNat_of_nonneg]; rw [Int.tmod_eq_emod_of_nonneg htb.1]; exact Int.emod_nonneg _ hne⟩
      have hB : B < s.cols.length := by
        have := Int.emod_lt_of_pos (turnV x 0) (show (0 : Int) < s.cols.length by omega)
        rw [Int.tmod_eq_emod_of_nonneg htb.1] at hBe
        omega
      have hop : openErr s l [(B : Int)] = 0 := open_ok h2 hb1 (by omega) (by omega) (by omega)
      have hperm : (anyO x l.length).Perm (nums l.length) := anyO_perm x l.length
      have hst := perm_strange hperm
      have hask : askE s B l (anyO x l.length) = 0 := by unfold askE; rw [if_neg (by simpa using hop)]; exact hst
      have hrl := rush_law (o := anyO x l.length) hask hb2
      have hpl := perm_len hperm
      have hpo : putOk l (anyO x l.length) := ⟨perm_out hperm, by omega⟩
      have hwl : ∀ k, (withL l (anyO x l.length) ⟨bc, bg⟩ k).length = l.length + 1 := by
        intro k; unfold withL; simp [putL_len]; omega
      have hwb : ∀ k, batsErr s (withL l (anyO x l.length) ⟨bc, bg⟩ k) = 0 := fun k => withL_err hb1 hb2 (perm_out hperm) k
      have hlo : ∀ k, losOk s B (withL l (anyO x l.length) ⟨bc, bg⟩ k) := fun k => ⟨h2, hwb k, by omega, by omega, by rw [hwl]; omega⟩
      have hne1 : ¬ (l.length : Int) + 1 = 0 := by omega
      obtain ⟨K, hKe⟩ : ∃ K : Nat, P.tmod ((l.length : Int) + 1) = K := ⟨(P.tmod ((l.length : Int) + 1)).toNat, by rw [Int.toNat_of_nonneg]; rw [Int.tmod_eq_emod_of_nonneg hp0]; exact Int.emod_nonneg _ hne1⟩
      have hK : K ≤ l.length := by
        have := Int.emod_lt_of_pos P (show (0 : Int) < (l.length : Int) + 1 by omega)
        rw [Int.tmod_eq_emod_of_nonneg hp0] at hKe
        omega
      have hK' : K ≤ (anyO x l.length).length := by omega
      have w1 := wrapS P hp0 (by omega)
      have w2 := wrap_small ((l.length : Int) + 1) (by omega) (by omega)
      have hl1000 : (l.length : Int) ≤ 1000 := by omega
      rcases hrl with ⟨r1, r2⟩ | ⟨p, m, r1, r2, r3, r4⟩
      · have hn := r2 K hK
        simp [kp10, pr, o2, o1, l12, l11, l10, l9, l8, l7, l6, s40, s41, s42, s43, s44, s45, sAwake, s36, sRush, rShp_enc, rShp_dec, rRsh_enc, rBat_enc, rBat_dec, rBat_k, rBat_decL, bats_app', rBat.de, rBat_dec1, rK_decL8, hs, hx, hl1, hl2, hl16, h1, hne, hne', hne1, hBe, hB, hlen, hl1000, r1, hKe, hK, hK', w1, w2, hn, hpo, hlo]
      · have hp' : p ≤ (anyO x l.length).length := by omega
        have hp3 : ¬ l.length < p := by omega
        have hp4 : ¬ (p : Int) < 0 := by omega
        generalize hn : lossB s B (withL l (anyO x l.length) ⟨bc, bg⟩ K) = n at *
        rcases r4 K hK with c1 | c1 | ⟨c1, c2⟩
        · rw [hn] at c1
          simp [kp10, pr, o2, o1, l12, l11, l10, l9, l8, l7, l6, s40, s41, s42, s43, s44, s45, sAwake, s36, sRush, rShp_enc, rShp_dec, rRsh_enc, rBat_enc, rBat_dec, rBat_k, rBat_decL, bats_app', rBat.de, rBat_dec1, rK_decL8, hs, hx, hl1, hl2, hl16, h1, hne, hne', hne1, hBe, hB, hlen, hl1000, r1, r2, r3, hKe, hK, hK', hp', hp3, hp4, w1, w2, hn, hpo, hlo, c1]
        · rw [hn] at c1
          by_cases hn0 : n < 0
          · simp [kp10, pr, o2, o1, l12, l11, l10, l9, l8, l7, l6, s40, s41, s42, s43, s44, s45, sAwake, s36, sRush, rShp_enc, rShp_dec, rRsh_enc, rBat_enc, rBat_dec, rBat_k, rBat_decL, bats_app', rBat.de, rBat_dec1, rK_decL8, hs, hx, hl1, hl2, hl16, h1, hne, hne', hne1, hBe, hB, hlen, hl1000, r1, r2, r3, hKe, hK, hK', hp', hp3, hp4, w1, w2, hn, hpo, hlo, c1, hn0]
          · simp [kp10, pr, o2, o1, l12, l11, l10, l9, l8, l7, l6, s40, s41, s42, s43, s44, s45, sAwake, s36, sRush, rShp_enc, rShp_dec, rRsh_enc, rBat_enc, rBat_dec, rBat_k, rBat_decL, bats_app', rBat.de, rBat_dec1, rK_decL8, hs, hx, hl1, hl2, hl16, h1, hne, hne', hne1, hBe, hB, hlen, hl1000, r1, r2, r3, hKe, hK, hK', hp', hp3, hp4, w1, w2, hn, hpo, hlo, c1, hn0]
        · rw [hn] at c1
          subst c1
          by_cases hn0 : m < 0
          · simp [kp10, pr, o2, o1, l12, l11, l10, l9, l8, l7, l6, s40, s41, s42, s43, s44, s45, sAwake, s36, sRush, rShp_enc, rShp_dec, rRsh_enc, rBat_enc, rBat_dec, rBat_k, rBat_decL, bats_app', rBat.de, rBat_dec1, rK_decL8, hs, hx, hl1, hl2, hl16, h1, hne, hne', hne1, hBe, hB, hlen, hl1000, r1, r3, hKe, hK, hK', hp', hp3, hp4, w1, w2, hn, hpo, hlo, c2, hn0]
          · simp [kp10, pr, o2, o1, l12, l11, l10, l9, l8, l7, l6, s40, s41, s42, s43, s44, s45, sAwake, s36, sRush, rShp_enc, rShp_dec, rRsh_enc, rBat_enc, rBat_dec, rBat_k, rBat_decL, bats_app', rBat.de, rBat_dec1, rK_decL8, hs, hx, hl1, hl2, hl16, h1, hne, hne', hne1, hBe, hB, hlen, hl1000, r1, r3, hKe, hK, hK', hp', hp3, hp4, w1, w2, hn, hpo, hlo, c2, hn0]
    · have h1' : (validE s (l ++ [⟨bc, bg⟩]) == 0) = false := by simpa using h1
      have h1'' : (validE s (l ++ [⟨bc, bg⟩]) != 0) = true := by simpa using h1
      simp [kp10, pr, sAwake, s36, rShp_enc, rShp_dec, rRsh_enc, rBat_enc, rBat_k, rBat_decL, bats_app', rBat_dec1, hs, hl1, hl2, hl16, h1, h1', h1'']
  · cases hr
end Go.Proofs.Ytpkjmnfgpbliaaa
