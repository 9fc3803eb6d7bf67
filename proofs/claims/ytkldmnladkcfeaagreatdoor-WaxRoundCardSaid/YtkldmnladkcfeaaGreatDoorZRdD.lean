/-
  The program of the wax chapter: Read. Conditions: none.
-/
import Derived.Test.YtkldmnladkcfeaaGreatDoorZRdB
namespace Go.Proofs.YtkldmnladkcfeaaGreatDoor
open Go.RowKit Go.Lib
set_option linter.unusedSimpArgs false
set_option linter.unusedVariables false
def kp34 (r : Nat) : List (Nat × Option Nat) := match r with
  | 0 => [(0, none), (2, none), (3, none)]
  | 1 => [(0, none), (2, none), (3, none), (12, none)]
  | 2 => [(2, none), (3, none)]
  | 3 => [(0, none), (2, none), (3, none)]
  | 4 => [(0, none), (2, none), (3, none), (17, none), (18, none), (19, none)]
  | 5 => [(0, none), (2, none), (3, none), (17, none), (18, none), (19, none), (20, none)]
  | 6 => [(0, none), (2, none), (3, none), (4, none), (5, none), (17, none), (18, none), (19, none)]
  | 7 => [(0, none), (2, none), (3, none), (4, none), (6, none), (17, none), (18, none), (19, none)]
  | 8 => [(0, none), (2, none), (3, none), (4, none), (6, none), (17, none), (18, none), (19, none), (26, none)]
  | 9 => [(0, none), (2, none), (3, none), (6, none), (17, none), (18, none), (19, none)]
  | 10 => [(0, none), (2, none), (3, none), (17, none), (18, none), (19, none)]
  | 11 => [(0, none), (2, none), (3, none), (4, none), (6, none), (17, none), (18, none), (19, none), (38, none)]
  | 12 => [(0, none), (2, none), (3, none), (4, none), (6, none), (17, none), (18, none), (19, none)]
  | 13 => [(0, none), (2, none), (3, none), (4, none), (6, none), (7, none), (17, none), (18, none), (19, none)]
  | 14 => [(0, none), (2, none), (3, none), (4, none), (6, none), (7, none), (8, none), (17, none), (18, none), (19, none)]
  | 15 => [(0, none), (2, none), (3, none), (4, none), (6, none), (7, none), (8, none), (17, none), (18, none), (19, none), (51, none)]
  | 16 => [(0, none), (2, none), (3, none), (4, none), (6, none), (7, none), (8, none), (17, none), (18, none), (19, none)]
  | 17 => [(0, none), (2, none), (3, none), (4, none), (6, none), (7, none), (8, none), (9, none), (17, none), (18, none), (19, none)]
  | 18 => [(0, none), (2, none), (3, none), (4, none), (6, none), (7, none), (8, none), (9, none), (17, none), (18, none), (19, none), (61, none)]
  | 19 => [(0, none), (2, none), (3, none), (4, none), (6, none), (7, none), (8, none), (17, none), (18, none), (19, none)]
  | 20 => [(0, none), (2, none), (3, none), (4, none), (6, none), (7, none), (8, none), (17, none), (18, none), (19, none)]
  | 21 => [(0, none), (2, none), (3, none), (7, none), (17, none), (18, none), (19, none), (86, none)]
  | 22 => [(0, none), (2, none), (3, none), (17, none), (18, none), (19, none)]
  | 23 => [(0, none), (2, none), (3, none), (17, none), (18, none), (19, none)]
  | 24 => [(0, none), (2, none), (3, none)]
  | 25 => [(2, none), (3, none)]
  | 26 => [(2, none), (3, none)]
  | _ => []
theorem getD_size {W : List ByteArray} (h : ∀ p ∈ W, p.size ≤ 2000) (i : Nat) : strOk (W.getD i ⟨#[]⟩) := by
  unfold strOk
  by_cases hi : i < W.length
  · rw [getD_at _ _ _ hi]
    have := h _ (List.getElem_mem hi); omega
  · have e : W.getD i ⟨#[]⟩ = ⟨#[]⟩ := by simp [List.getD, List.getElem?_eq_none (show W.length ≤ i by omega)]
    rw [e]
    have : (⟨#[]⟩ : ByteArray).size = 0 := rfl
    omega
theorem propsO_names {W : List ByteArray} (h : ∀ p ∈ W, p.size ≤ 2000) : ∀ {k : Nat} {l : List Prp}, propsO W k = some l → ∀ p ∈ l, strOk p.name
  | 0, l, hl => by cases hl; intro p hp; cases hp
  | k + 1, l, hl => by
    unfold propsO at hl
    split at hl
    · rename_i l' n h1 _
      cases hl
      intro p hp
      rcases List.mem_append.1 hp with hp | hp
      · exact propsO_names h h1 p hp
      · rw [List.mem_singleton.1 hp]; exact getD_size h _
    · cases hl
theorem tab_ok (s : ByteArray) (hs : s.size ≤ 2000) {n : Nat} (h : ∀ k, k ≤ n → runP (linesL s) k = some (tabK (linesL s) k)) (hn : n ≤ (linesL s).length) : ∀ k, k ≤ n → ((tabK (linesL s) k).props.length ≤ 2000 * k ∧ (tabK (linesL s) k).kinds.length ≤ k) ∧ namesOk (tabK (linesL s) k)
  | 0, _ => ⟨⟨Nat.zero_le _, Nat.zero_le _⟩, fun p hp => (by cases hp), fun p hp => (by cases hp)⟩
  | k + 1, hk => by
    obtain ⟨⟨h1, h2⟩, h3, h4⟩ := tab_ok s hs h hn k (by omega)
    have hst := run_step h (show k < n by omega)
    have hkL : k < (linesL s).length := by omega
    have hwm : ∀ p ∈ wordsL (linesL s) k, p.size ≤ 2000 := fun p hp => Nat.le_trans (words_mem hkL p hp) hs
    have hwl := words_len hkL
    generalize wordsL (linesL s) k = W at *
    generalize tabK (linesL s) k = t0 at *
    generalize tabK (linesL s) (k + 1) = t1 at *
    have hhf : halfW W ≤ 1000 := by unfold halfW; omega
    unfold stepP at hst
    split at hst
    · split at hst
      · obtain ⟨v, hv, rfl⟩ := Option.map_eq_some_iff.1 hst
        exact ⟨⟨by simp only; omega, by simp only; omega⟩, h3, h4⟩
      · cases hst
    · split at hst
      · cases hst
      · split at hst
        · obtain ⟨ps, hps, rfl⟩ := Option.map_eq_some_iff.1 hst
          have hl := propsO_len hps
          refine ⟨⟨by simp only [List.length_append]; omega, by simp only; omega⟩, fun p hp => ?_, h4⟩
          rcases List.mem_append.1 hp with hp | hp
          · exact h3 p hp
          · exact propsO_names hwm hps p hp
        · obtain ⟨sp, hsp, rfl⟩ := Option.map_eq_some_iff.1 hst
          refine ⟨⟨by simp only; omega, by simp only [List.length_append, List.length_singleton]; omega⟩, h3, fun p hp => ?_⟩
          rcases List.mem_append.1 hp with hp | hp
          · exact h4 p hp
          · rw [List.mem_singleton.1 hp]; exact getD_size hwm _
theorem z_nl1 : (⟨#[10]⟩ : ByteArray).size = 1 := rfl
theorem z_sp1 : (⟨#[32]⟩ : ByteArray).size = 1 := rfl
def g34 : List (Nat × (List D → Option D)) := (16, s16) :: (69, s69) :: (72, s72) :: (73, s73) :: (74, s74) :: (75, s75) :: []
theorem dg34 : DelOk Tryz.prog (delOf g34) := del_cons (del_cons (del_cons (del_cons (del_cons (del_cons del_nil call75 ok75) call74 ok74) call73 ok73) call72 ok72) call69 ok69) call16 ok16
def kb34 : List (Nat × Nat × Nat) := [(2, 0, 2), (2, 1, 2), (7, 1, 2)]
attribute [local simp] kb34
def pq34 (r : Nat) : List (Nat × List Nat) := match r with
  | 20 => [(6, [8, 9, 10, 12])]
  | _ => []
abbrev cx34 : Cx := mkCxP g34 [(74, p74), (75, p75)] 110 kp34 kb34 (fun _ => []) pq34
theorem cx34_ok : CxOk Tryz.prog cx34 := mkCxP_ok dg34 po2 110 kp34 kb34 (fun _ => []) pq34
def s34 : List D → Option D := sp1 cStr (cTup2 (cAgg rTbl) cInt) fun s => some (readP s)
set_option maxHeartbeats 8000000 in
theorem ok34 : ∀ ds d, s34 ds = some d → PureC Tryz.prog 34 ds d := ok_sp1 fun s r hr => by
  cases hr
  refine pure_handD Tryz.func34 rfl rfl (Nat.le_of_ble_eq_true rfl) fun m w a I ha => ?_
  refine am_cut cx34_ok 1 _ rfl (by kernel_rfl) (by kernel_rfl) (fun _ _ => rfl) _ _ _ _ I ?_
  generalize hQ : (bodyPostD Tryz.prog Tryz.f34 (RetR m w ((cTup2 (cAgg rTbl) cInt).enc (readP s)))) = Q
  by_cases h2 : 2000 < s.size
  · have h2' : (2000 : Int) < s.size := by omega
    simp [cutA, kp34, h2', codeK_some]
    intro g' a' w' I'
    show Q .ret a' w'
    subst hQ
    have hR : readP s = (noT, 3) := by unfold readP; rw [if_pos h2]
    rw [hR]
    refine post_ret_dec (cTup2 (cAgg rTbl) cInt) (noT, 3) cx34_ok I' (rs := [.agg (rTbl.enc noT), DI 3]) ?_ ?_
    · rw [Tryz.results34]; simp [rTbl_enc, noT]
    · simp [rTbl_enc, rTbl_dec]
  · have h2' : ¬ (2000 : Int) < s.size := by omega
    simp [cutA, kp34, h2', codeK_some]
    intro g1 a1 w1 I1
    show Code.wpIn _ _ _ (cutB 1 _) _ _ _
    refine wpIn_seq ?_
    have hd1 := I1.deferred
    obtain ⟨b2, o2, p2⟩ := I1.tmps 2 (.loc 2 0) (by simp [getA])
    obtain ⟨b3, o3, p3⟩ := I1.tmps 3 (.loc 3 0) (by simp [getA])
    refine wpIn_region_list ?_
    unfold wpListIn
    rw [if_pos (by simp [Region.wanted])]
    refine wp_val (.inl rfl) (v := .func (.func 71) #[] #[.pointer (some ⟨b2, 0, none⟩), .pointer (some ⟨b3, 0, none⟩)]) (w' := w1) ?_ ?_
    · simp [execOp, Act.eval, p2, p3]
      rfl
    unfold wpListIn
    rw [if_pos (by simp [Region.wanted])]
    have I2 := I1.put (d := some 14) (v := .func (.func 71) #[] #[.pointer (some ⟨b2, 0, none⟩), .pointer (some ⟨b3, 0, none⟩)]) (fun x h => by cases h; decide) (x := .d .top) (by simp only [RelX, Rel])
    generalize hD : ({ target := .fn (.func 71) #[.pointer (some ⟨b2, 0, none⟩), .pointer (some ⟨b3, 0, none⟩)], args := #[] } : Deferred) = D
    refine wp_defer (d := D) ?_ ?_
    · have : (a1.put (some 14) (.func (.func 71) #[] #[.pointer (some ⟨b2, 0, none⟩), .pointer (some ⟨b3, 0, none⟩)])).tmps.getD 14 undef = .func (.func 71) #[] #[.pointer (some ⟨b2, 0, none⟩), .pointer (some ⟨b3, 0, none⟩)] := by
        rw [putAct_get _ _ _ _ (by rw [I1.size]; decide), if_pos rfl]
      subst hD
      simp [execOp, resolve, Deferred.ofValue, Act.eval, this]
    unfold wpListIn
    simp only [Exit.then]
    have hb2 := (I1.boxb 2 b2 o2).1.resolve_right (pureD_no w [] b2)
    have hb3 := (I1.boxb 3 b3 o3).1.resolve_right (pureD_no w [] b3)
    have hob : ∀ i b, outR b2 b3 i = some b → w.heap.size ≤ b := by
      intro i b h
      unfold outR at h
      split at h
      · cases h; exact hb2
      · split at h
        · cases h; exact hb3
        · cases h
    have I3 := I2.pushO (outR b2 b3) (fun i b h => by
      unfold outR at h
      split at h
      · rename_i e; cases h; subst e; exact o2
      · split at h
        · rename_i e; cases h; subst e; exact o3
        · cases h) [D] ({ (a1.put (some 14) (.func (.func 71) #[] #[.pointer (some ⟨b2, 0, none⟩), .pointer (some ⟨b3, 0, none⟩)])) with defers := D :: (a1.put (some 14) (.func (.func 71) #[] #[.pointer (some ⟨b2, 0, none⟩), .pointer (some ⟨b3, 0, none⟩)])).defers }) rfl (by show D :: (a1.put _ _).defers = [D]; rw [putAct_defers, hd1])
    have caught : ∀ (σ' : St) (x2 y2 z2 x3 : X) (g' : Gh) (a' : Act) (w' : World), Inv 110 m (pureO w (outR b2 b3) [D]) g' σ' a' w' → getA σ'.tmps 2 = some (.loc 2 0) → getA σ'.tmps 3 = some (.loc 3 0) → getA σ'.boxes 2 = some [x2, y2, z2] → getA σ'.boxes 3 = some [x3] → readP s = (noT, 6) → Q (.panic [{ v := formV, recovered := false }]) a' w' := by
      intro σ' x2 y2 z2 x3 g' a' w' I' t2 t3 y2 y3 hR
      have hd' : a'.defers = [D] := I'.noMark (c := cx34) (fun h => h)
      subst hQ
      rw [hR]
      show Leaves _ _ _ _ a'.defers _ _
      rw [hd']
      refine leaves_catch hD.symm call71 (catch71 I' hd' t2 t3 y2 y3) ?_
      rintro w'' ⟨g'', I''⟩
      exact inv_ret_dec (cTup2 (cAgg rTbl) cInt) (noT, 6) cx34_ok (I''.dropO hob) (rs := [.agg [.sl 0 [], .sl 0 [], DI 0], DI 6]) (by rw [Tryz.results34]; simp) (by simp [noT_dec])
    have back : ∀ (σ' : St) (t : Tbl) (g' : Gh) (a' : Act) (w' : World), Inv 110 m (pureO w (outR b2 b3) [D]) g' σ' a' w' → aResS tys σ' Tryz.f34.results.toList = some [.agg (rTbl.enc t), DI 0] → readP s = (t, 0) → Q .ret a' w' := by
      intro σ' t g' a' w' I' hres hR
      have hd' : a'.defers = [D] := I'.noMark (c := cx34) (fun h => h)
      subst hQ
      rw [hR]
      show Leaves _ _ _ _ a'.defers _ _
      rw [hd']
      refine leaves_idle hD.symm call71 (idle71 _ _ _) ?_
      refine inv_ret_dec (cTup2 (cAgg rTbl) cInt) (t, 0) cx34_ok (I'.dropO hob) (rs := [.agg (rTbl.enc t), DI 0]) hres (by simp [rTbl_enc, rTbl_dec])
    refine am_code cx34_ok (by kernel_rfl) (by kernel_rfl) I3 (noOut (by kernel_rfl)) ?_
    have hs1 : s.size < 100000 := by omega
    have hs2 : (trimV s ⟨#[10]⟩).size < 100000 := Nat.lt_of_le_of_lt (trim_size _ _) hs1
    simp [kp34, g34, s73, s72, hs1, hs2, z_nl1]
    have hLL : splitW (trimV s ⟨#[10]⟩) ⟨#[10]⟩ = linesL s := rfl
    rw [hLL]
    obtain ⟨n, hn, hrun, hend⟩ := run_cases (linesL s) (linesL s).length
    have hwm : ∀ k, k < (linesL s).length → ∀ p ∈ wordsL (linesL s) k, p.size ≤ 2000 := fun k hk p hp => Nat.le_trans (words_mem hk p hp) (by omega)
    have hwl : ∀ k, k < (linesL s).length → 1 ≤ (wordsL (linesL s) k).length ∧ (wordsL (linesL s) k).length ≤ 2001 := fun k hk => by have := words_len hk; omega
    have hlm : ∀ k (hk : k < (linesL s).length), (linesL s)[k].size < 100000 := fun k hk => by have := lines_mem s _ (List.getElem_mem hk); omega
    have hll := lines_len s
    have hrd : readP s = match runP (linesL s) (linesL s).length with
      | some t => if okT t ∧ (textV t).toList = s.toList then (t, 0) else (noT, 6)
      | none => (noT, 6) := by unfold readP; rw [if_neg h2]; rfl
    have htab := tab_ok s (by omega) hrun hn
    have hsz : ∀ k, k ≤ n → (tabK (linesL s) k).props.length ≤ 2000 * k ∧ (tabK (linesL s) k).kinds.length ≤ k := fun k hk => (htab k hk).1
    have hnames : ∀ k, k ≤ n → namesOk (tabK (linesL s) k) := fun k hk => (htab k hk).2
    clear htab
    have hW' : ∀ k (hk : k < (linesL s).length), splitW (linesL s)[k] ⟨#[32]⟩ = wordsL (linesL s) k := fun k hk => by unfold wordsL; rw [getD_at _ _ _ hk]; rfl
    generalize linesL s = L at *
    have hl0 : tabK L 0 = noT := rfl
    generalize hLoopQ : Cx.loop _ _ _ = rLoopQ
    apply loop_thenK hLoopQ (fun k => ⟨[(0, .d (DS s)), (2, .loc 2 0), (3, .loc 3 0), (17, .d (.sl 1 (L.map rStr.enc))), (18, .d (DI L.length)), (19, .d (DI k))], [(2, [.sl 2 ((tabK L k).props.map rPrp.enc) (.tok 100200), .sl 2 ((tabK L k).kinds.map rKnd.enc) (.tok 100201), .d (DI (tabK L k).purity)]), (3, [.d (DI 0)])], [100201, 100200], []⟩) n (by simp only [hl0]; rfl)
    rotate_left
    · show _ < 281474976710656; omega
    · exact fun h => h
    rotate_left
    all_goals clear hLoopQ
    · intro j hj
      have hjL : j < L.length := by omega
      have hst := run_step hrun hj
      obtain ⟨hp1, hk1⟩ := hsz j (by omega)
      have hW := hW' j hjL
      have hz := hlm j hjL
      obtain ⟨wl1, wl2⟩ := hwl j hjL
      have hwm := hwm j hjL
      generalize wordsL L j = W at *
      generalize tabK L j = t0 at *
      generalize tabK L (j + 1) = t1 at *
      obtain ⟨P0, K0, u0⟩ := t0
      simp only at hp1 hk1
      have hjI : (j : Int) < L.length := by omega
      have w1 := wrap_small ((j : Int) + 1) (by omega) (by omega)
      have g0 : 0 < W.length := by omega
      have i0 : (0 : Int) < W.length := by omega
      have hhf : halfW W ≤ 1000 := by unfold halfW; omega
      unfold stepP at hst
      by_cases hj1 : j = 1
      · subst hj1
        rw [if_pos rfl] at hst
        split at hst
        · rename_i hw2
          obtain ⟨v, hv, rfl⟩ := Option.map_eq_some_iff.1 hst
          have g1 : 1 < W.length := by omega
          rw [getD_at _ _ _ g1] at hv
          have y1 : W[1].size ≤ 100000 := by have := hwm _ (List.getElem_mem g1); omega
          have hjI' : (1 : Int) < L.length := by omega
          have w2 : IntKind.i64.wrap 2 = 2 := wrap_small 2 (by omega) (by omega)
          simp [kp34, g34, s72, s74, s75, hjL, hjI', hz, hW, hw2, g1, hv, y1, rStr_enc, z_sp1, w2]
          done
        · cases hst
      · rw [if_neg hj1] at hst
        have hj1I : ((j : Int) == 1) = false := beq_eq_false_iff_ne.2 (by omega)
        split at hst
        · cases hst
        rename_i hodd
        have hodd2 : ((W.length : Int).tmod 2 == 0) = false := by
          rw [Int.tmod_eq_emod_of_nonneg (by omega)]
          exact beq_eq_false_iff_ne.2 (by omega)
        by_cases hj0 : j = 0
        · subst hj0
          rw [if_pos rfl] at hst
          obtain ⟨ps, hps, rfl⟩ := Option.map_eq_some_iff.1 hst
          obtain ⟨n', hn', hpall, hcase⟩ := props_cases W (halfW W)
          obtain rfl : n' = halfW W := by
            rcases hcase with h | ⟨_, _, h⟩
            · exact h
            · rw [hps] at h; cases h
          have hpsK : ps = propK W (halfW W) := by have := hpall _ (Nat.le_refl _); rw [hps] at this; exact Option.some.inj this
          subst hpsK
          have hjI' : (0 : Int) < L.length := by omega
          simp [kp34, g34, s72, hjL, hjI', hz, hW, hodd2, g0, i0, rStr_enc, z_sp1]
          (generalize hLoopQ : Cx.loop _ _ _ = rLoopQ; apply loop_then hLoopQ (fun k => ⟨[(0, .d (DS s)), (2, .loc 2 0), (3, .loc 3 0), (4, .d (DI 0)), (6, .d (.sl 1 (W.map rStr.enc))), (7, .loc 7 0), (8, .d (DI (2 * (k : Int) + 1))), (17, .d (.sl 1 (L.map rStr.enc))), (18, .d (DI L.length)), (19, .d (DI 0))], [(2, [.sl 2 ((P0 ++ propK W k).map rPrp.enc) (.tok 100200), .sl 2 (K0.map rKnd.enc) (.tok 100201), .d (DI u0)]), (3, [.d (DI 0)]), (7, [.d (DS W[0]), .sl 2 (([] : List Spn).map rSpn.enc) (.tok 100701)])], [100701, 100201, 100200], []⟩) (halfW W) (by first | (simp; done) | (simp; rfl) | (simp; simp [*])); rotate_left; (show _ < 281474976710656; omega); rfl; rotate_left; all_goals clear hLoopQ)
          · intro k hk
            have hj2 : 2 * k + 2 < W.length := by unfold halfW at hk; omega
            have g1 : 2 * k + 1 < W.length := by omega
            have i1 : 2 * (k : Int) + 1 < W.length := by omega
            have i2 : 2 * (k : Int) + 1 + 1 < W.length := by omega
            have e1 : (2 * (k : Int) + 1).toNat = 2 * k + 1 := by omega
            have e2 : (2 * (k : Int) + 1 + 1).toNat = 2 * k + 2 := by omega
            have wa := wrap_small (2 * (k : Int) + 1 + 1) (by omega) (by omega)
            have wb := wrap_small (2 * (k : Int) + 1 + 2) (by omega) (by omega)
            have p0 : 0 ≤ 2 * (k : Int) + 1 := by omega
            have p1 : 0 ≤ 2 * (k : Int) + 1 + 1 := by omega
            have e3 : 2 * ((k : Int) + 1) + 1 = 2 * (k : Int) + 1 + 2 := by omega
            obtain ⟨v, hv, hnx⟩ := props_step hpall hk
            rw [hnx]
            rw [getD_at _ _ _ hj2] at hv
            rw [getD_at _ _ _ g1]
            have y2 : W[2 * k + 2].size ≤ 100000 := by have := hwm _ (List.getElem_mem hj2); omega
            have l1 := propsO_len (hpall k (by omega))
            generalize propK W k = PJ at *
            have c1 : P0.length + PJ.length + 1 ≤ 140737488355328 := by omega
            have c2 : (P0.length + PJ.length + 1) * 24 ≤ 140737488355328 := by omega
            simp [kp34, g34, s75, rStr_enc, rPrp_enc, i1, i2, e1, e2, e3, p0, p1, g1, hj2, wa, wb, c1, c2, hv, y2]
            done
          · have hend : ¬ 2 * (halfW W : Int) + 1 < W.length := by unfold halfW; omega
            simp [kp34, hend]
            done
        · rw [if_neg hj0] at hst
          obtain ⟨sp, hsp, rfl⟩ := Option.map_eq_some_iff.1 hst
          obtain ⟨n', hn', hpall, hcase⟩ := spans_cases W (halfW W)
          obtain rfl : n' = halfW W := by
            rcases hcase with h | ⟨_, _, h⟩
            · exact h
            · rw [hsp] at h; cases h
          have hpsK : sp = spanK W (halfW W) := by have := hpall _ (Nat.le_refl _); rw [hsp] at this; exact Option.some.inj this
          subst hpsK
          have hj0I : ((j : Int) == 0) = false := beq_eq_false_iff_ne.2 (by omega)
          have hj1P : (1 : Int) < j := by omega
          have hj1N : 1 < j := by omega
          simp [kp34, g34, s72, hjL, hjI, hz, hW, hj1I, hodd2, g0, i0, rStr_enc, z_sp1]
          (generalize hLoopQ : Cx.loop _ _ _ = rLoopQ; apply loop_then hLoopQ (fun k => ⟨[(0, .d (DS s)), (2, .loc 2 0), (3, .loc 3 0), (4, .d (DI j)), (6, .d (.sl 1 (W.map rStr.enc))), (7, .loc 7 0), (8, .d (DI (2 * (k : Int) + 1))), (17, .d (.sl 1 (L.map rStr.enc))), (18, .d (DI L.length)), (19, .d (DI j))], [(2, [.sl 2 (P0.map rPrp.enc) (.tok 100200), .sl 2 (K0.map rKnd.enc) (.tok 100201), .d (DI u0)]), (3, [.d (DI 0)]), (7, [.d (DS W[0]), .sl 2 ((spanK W k).map rSpn.enc) (.tok 100701)])], [100701, 100201, 100200], []⟩) (halfW W) (by first | (simp; done) | (simp; rfl) | (simp; simp [*])); rotate_left; (show _ < 281474976710656; omega); rfl; rotate_left; all_goals clear hLoopQ)
          · intro k hk
            have hj2 : 2 * k + 2 < W.length := by unfold halfW at hk; omega
            have g1 : 2 * k + 1 < W.length := by omega
            have i1 : 2 * (k : Int) + 1 < W.length := by omega
            have i2 : 2 * (k : Int) + 1 + 1 < W.length := by omega
            have e1 : (2 * (k : Int) + 1).toNat = 2 * k + 1 := by omega
            have e2 : (2 * (k : Int) + 1 + 1).toNat = 2 * k + 2 := by omega
            have wa := wrap_small (2 * (k : Int) + 1 + 1) (by omega) (by omega)
            have wb := wrap_small (2 * (k : Int) + 1 + 2) (by omega) (by omega)
            have p0 : 0 ≤ 2 * (k : Int) + 1 := by omega
            have p1 : 0 ≤ 2 * (k : Int) + 1 + 1 := by omega
            have e3 : 2 * ((k : Int) + 1) + 1 = 2 * (k : Int) + 1 + 2 := by omega
            obtain ⟨u, v, hv, hu, hnx⟩ := spans_step hpall hk
            rw [hnx]
            rw [getD_at _ _ _ hj2] at hv
            rw [getD_at _ _ _ g1] at hu
            have y1 : W[2 * k + 1].size ≤ 100000 := by have := hwm _ (List.getElem_mem g1); omega
            have y2 : W[2 * k + 2].size ≤ 100000 := by have := hwm _ (List.getElem_mem hj2); omega
            have l1 := spansO_len (hpall k (by omega))
            generalize spanK W k = SJ at *
            have c1 : SJ.length + 1 ≤ 140737488355328 := by omega
            have c2 : (SJ.length + 1) * 16 ≤ 140737488355328 := by omega
            simp [kp34, g34, s75, rStr_enc, rSpn_enc, hj0I, hj0, i1, i2, e1, e2, e3, p0, p1, g1, hj2, wa, wb, c1, c2, hv, hu, y1, y2]
            done
          · have hend : ¬ 2 * (halfW W : Int) + 1 < W.length := by unfold halfW; omega
            have c1 : K0.length + 1 ≤ 140737488355328 := by omega
            have c2 : (K0.length + 1) * 40 ≤ 140737488355328 := by omega
            simp [kp34, hend, hj1P, hj1N, w1, c1, c2, rKnd_enc]
            done
    · have e74 : p74 [DB false] = some formV := rfl
      have e75 : ∀ z : ByteArray, z.size ≤ 100000 → numP z = none → p75 [DS z] = some formV := fun z h1 h2 => by simp only [p75]; rw [if_pos ⟨h1, h2⟩]
      rcases hend with rfl | ⟨hnL, hst, hnone⟩
      · have ht := hrun L.length (Nat.le_refl _)
        rw [ht] at hrd
        simp only at hrd
        have hnm := hnames L.length (Nat.le_refl _)
        clear hsz hW' hrun hnames
        generalize tabK L L.length = t0 at *
        by_cases h1 : okT t0
        · have h1' : (chk t0).2.2 = 0 := h1
          by_cases h3 : (textV t0).toList = s.toList
          · rw [if_pos ⟨h1, h3⟩] at hrd
            simp [kp34, g34, s16, s69, s74, rTbl_enc, rTbl_dec, hnm, h1, h1', h3, codeK_some]
            intro g' a' w' I'
            exact back _ t0 g' a' w' I' (by rw [Tryz.results34]; simp [rTbl_enc]) hrd
          · have h3' : ((textV t0).toList == s.toList) = false := by simpa using h3
            rw [if_neg (fun q => h3 q.2)] at hrd
            simp [kp34, g34, s16, s69, s74, rTbl_enc, rTbl_dec, hnm, h1, h1', h3, h3', e74, codeK_some]
            intro g' a' w' I'
            exact caught _ _ _ _ _ g' a' w' I' (by simp [getA]) (by simp [getA]) rfl rfl hrd
        · have h1' : ((chk t0).2.2 == 0) = false := by
            have : ¬ (chk t0).2.2 = 0 := h1
            simpa using this
          rw [if_neg (fun q => h1 q.1)] at hrd
          simp [kp34, g34, s16, s69, s74, rTbl_enc, rTbl_dec, hnm, h1, h1', e74, codeK_some]
          intro g' a' w' I'
          exact caught _ _ _ _ _ g' a' w' I' (by simp [getA]) (by simp [getA]) rfl rfl hrd
      · have hread : readP s = (noT, 6) := by rw [hrd, hnone]
        obtain ⟨hp1, hk1⟩ := hsz n (Nat.le_refl _)
        have hW := hW' n hnL
        have hz := hlm n hnL
        obtain ⟨wl1, wl2⟩ := hwl n hnL
        have hwm := hwm n hnL
        have hz0 : n = 0 → tabK L n = noT := fun e => by subst e; exact hl0
        clear hrd hsz hW' hrun
        generalize wordsL L n = W at *
        generalize tabK L n = t0 at *
        obtain ⟨P0, K0, u0⟩ := t0
        simp only at hp1 hk1
        have hnI : (n : Int) < L.length := by omega
        have g0 : 0 < W.length := by omega
        have i0 : (0 : Int) < W.length := by omega
        have hhf : halfW W ≤ 1000 := by unfold halfW; omega
        unfold stepP at hst
        by_cases hj1 : n = 1
        · subst hj1
          have hnI' : (1 : Int) < L.length := by omega
          rw [if_pos rfl] at hst
          split at hst
          · rename_i hw2
            have hv := Option.map_eq_none_iff.1 hst
            have g1 : 1 < W.length := by omega
            rw [getD_at _ _ _ g1] at hv
            have y1 : W[1].size ≤ 100000 := by have := hwm _ (List.getElem_mem g1); omega
            have hp := e75 _ y1 hv
            simp [kp34, g34, s72, s74, s75, hnL, hnI', hz, hW, hw2, g1, hv, y1, hp, rStr_enc, z_sp1, codeK_some]
            intro g' a' w' I'
            exact caught _ _ _ _ _ g' a' w' I' (by simp [getA]) (by simp [getA]) rfl rfl hread
          · rename_i hw2
            have hw3 : ((W.length : Int) == 2) = false := beq_eq_false_iff_ne.2 (by omega)
            simp [kp34, g34, s72, s74, hnL, hnI', hz, hW, hw3, e74, rStr_enc, z_sp1, codeK_some]
            intro g' a' w' I'
            exact caught _ _ _ _ _ g' a' w' I' (by simp [getA]) (by simp [getA]) rfl rfl hread
        · rw [if_neg hj1] at hst
          have hj1I : ((n : Int) == 1) = false := beq_eq_false_iff_ne.2 (by omega)
          split at hst
          · rename_i hev
            have hev2 : ((W.length : Int).tmod 2 == 0) = true := by
              rw [Int.tmod_eq_emod_of_nonneg (by omega)]
              exact beq_iff_eq.2 (by omega)
            simp [kp34, g34, s72, s74, hnL, hnI, hz, hW, hj1, hj1I, hev2, e74, rStr_enc, z_sp1, codeK_some]
            intro g' a' w' I'
            exact caught _ _ _ _ _ g' a' w' I' (by simp [getA]) (by simp [getA]) rfl rfl hread
          · rename_i hodd
            have hodd2 : ((W.length : Int).tmod 2 == 0) = false := by
              rw [Int.tmod_eq_emod_of_nonneg (by omega)]
              exact beq_eq_false_iff_ne.2 (by omega)
            by_cases hj0 : n = 0
            · subst hj0
              rw [if_pos rfl] at hst
              have hps := Option.map_eq_none_iff.1 hst
              obtain ⟨q, hq, hpall, hcase⟩ := props_cases W (halfW W)
              rcases hcase with h | ⟨hql, hqn, _⟩
              · subst h; rw [hpall _ (Nat.le_refl _)] at hps; cases hps
              · have hnI' : (0 : Int) < L.length := by omega
                have hp0 : P0 = [] := by have := hz0 rfl; simpa [noT] using congrArg Tbl.props this
                subst hp0
                simp [kp34, g34, s72, hnL, hnI', hz, hW, hodd2, g0, i0, rStr_enc, z_sp1]
                (generalize hLoopQ : Cx.loop _ _ _ = rLoopQ; apply loop_thenK hLoopQ (fun k => ⟨[(0, .d (DS s)), (2, .loc 2 0), (3, .loc 3 0), (4, .d (DI 0)), (6, .d (.sl 1 (W.map rStr.enc))), (7, .loc 7 0), (8, .d (DI (2 * (k : Int) + 1))), (17, .d (.sl 1 (L.map rStr.enc))), (18, .d (DI L.length)), (19, .d (DI 0))], [(2, [.sl 2 (([] ++ propK W k).map rPrp.enc) (.tok 100200), .sl 2 (K0.map rKnd.enc) (.tok 100201), .d (DI u0)]), (3, [.d (DI 0)]), (7, [.d (DS W[0]), .sl 2 (([] : List Spn).map rSpn.enc) (.tok 100701)])], [100701, 100201, 100200], []⟩) q rfl; rotate_left; (show _ < 281474976710656; omega); (exact fun h => h); rotate_left; all_goals clear hLoopQ)
                · intro k hk
                  have hj2 : 2 * k + 2 < W.length := by have hh := hql; unfold halfW at hh; omega
                  have g1 : 2 * k + 1 < W.length := by omega
                  have i1 : 2 * (k : Int) + 1 < W.length := by omega
                  have i2 : 2 * (k : Int) + 1 + 1 < W.length := by omega
                  have e1 : (2 * (k : Int) + 1).toNat = 2 * k + 1 := by omega
                  have e2 : (2 * (k : Int) + 1 + 1).toNat = 2 * k + 2 := by omega
                  have wa := wrap_small (2 * (k : Int) + 1 + 1) (by omega) (by omega)
                  have wb := wrap_small (2 * (k : Int) + 1 + 2) (by omega) (by omega)
                  have p0 : 0 ≤ 2 * (k : Int) + 1 := by omega
                  have p1 : 0 ≤ 2 * (k : Int) + 1 + 1 := by omega
                  have e3 : 2 * ((k : Int) + 1) + 1 = 2 * (k : Int) + 1 + 2 := by omega
                  obtain ⟨v, hv, hnx⟩ := props_step hpall hk
                  rw [hnx]
                  rw [getD_at _ _ _ hj2] at hv
                  rw [getD_at _ _ _ g1]
                  have y2 : W[2 * k + 2].size ≤ 100000 := by have := hwm _ (List.getElem_mem hj2); omega
                  have l1 := propsO_len (hpall k (by omega))
                  generalize propK W k = PJ at *
                  have c1 : PJ.length + 1 ≤ 140737488355328 := by omega
                  have c2 : (PJ.length + 1) * 24 ≤ 140737488355328 := by omega
                  simp [kp34, g34, s75, rStr_enc, rPrp_enc, i1, i2, e1, e2, e3, p0, p1, g1, hj2, wa, wb, c1, c2, hv, y2]
                · skip
                  have hj2 : 2 * q + 2 < W.length := by have hh := hql; unfold halfW at hh; omega
                  have g1 : 2 * q + 1 < W.length := by omega
                  have i1 : 2 * (q : Int) + 1 < W.length := by omega
                  have i2 : 2 * (q : Int) + 1 + 1 < W.length := by omega
                  have e1 : (2 * (q : Int) + 1).toNat = 2 * q + 1 := by omega
                  have e2 : (2 * (q : Int) + 1 + 1).toNat = 2 * q + 2 := by omega
                  have wa := wrap_small (2 * (q : Int) + 1 + 1) (by omega) (by omega)
                  have wb := wrap_small (2 * (q : Int) + 1 + 2) (by omega) (by omega)
                  have p0 : 0 ≤ 2 * (q : Int) + 1 := by omega
                  have p1 : 0 ≤ 2 * (q : Int) + 1 + 1 := by omega
                  have e3 : 2 * ((q : Int) + 1) + 1 = 2 * (q : Int) + 1 + 2 := by omega
                  rw [getD_at _ _ _ hj2] at hqn
                  have y2 : W[2 * q + 2].size ≤ 100000 := by have := hwm _ (List.getElem_mem hj2); omega
                  have hp := e75 _ y2 hqn
                  simp [kp34, g34, s75, rStr_enc, i1, i2, e1, e2, p0, p1, g1, hj2, wa, hqn, y2, hp, codeK_some]
                  intro g' a' w' I'
                  exact caught _ _ _ _ _ g' a' w' I' (by simp [getA]) (by simp [getA]) rfl rfl hread
            · rw [if_neg hj0] at hst
              have hps := Option.map_eq_none_iff.1 hst
              obtain ⟨q, hq, hpall, hcase⟩ := spans_cases W (halfW W)
              have hj0I : ((n : Int) == 0) = false := beq_eq_false_iff_ne.2 (by omega)
              rcases hcase with h | ⟨hql, hqn, _⟩
              · subst h; rw [hpall _ (Nat.le_refl _)] at hps; cases hps
              · simp [kp34, g34, s72, hnL, hnI, hz, hW, hj1I, hodd2, g0, i0, rStr_enc, z_sp1]
                (generalize hLoopQ : Cx.loop _ _ _ = rLoopQ; apply loop_thenK hLoopQ (fun k => ⟨[(0, .d (DS s)), (2, .loc 2 0), (3, .loc 3 0), (4, .d (DI n)), (6, .d (.sl 1 (W.map rStr.enc))), (7, .loc 7 0), (8, .d (DI (2 * (k : Int) + 1))), (17, .d (.sl 1 (L.map rStr.enc))), (18, .d (DI L.length)), (19, .d (DI n))], [(2, [.sl 2 (P0.map rPrp.enc) (.tok 100200), .sl 2 (K0.map rKnd.enc) (.tok 100201), .d (DI u0)]), (3, [.d (DI 0)]), (7, [.d (DS W[0]), .sl 2 ((spanK W k).map rSpn.enc) (.tok 100701)])], [100701, 100201, 100200], []⟩) q rfl; rotate_left; (show _ < 281474976710656; omega); (exact fun h => h); rotate_left; all_goals clear hLoopQ)
                · intro k hk
                  have hj2 : 2 * k + 2 < W.length := by have hh := hql; unfold halfW at hh; omega
                  have g1 : 2 * k + 1 < W.length := by omega
                  have i1 : 2 * (k : Int) + 1 < W.length := by omega
                  have i2 : 2 * (k : Int) + 1 + 1 < W.length := by omega
                  have e1 : (2 * (k : Int) + 1).toNat = 2 * k + 1 := by omega
                  have e2 : (2 * (k : Int) + 1 + 1).toNat = 2 * k + 2 := by omega
                  have wa := wrap_small (2 * (k : Int) + 1 + 1) (by omega) (by omega)
                  have wb := wrap_small (2 * (k : Int) + 1 + 2) (by omega) (by omega)
                  have p0 : 0 ≤ 2 * (k : Int) + 1 := by omega
                  have p1 : 0 ≤ 2 * (k : Int) + 1 + 1 := by omega
                  have e3 : 2 * ((k : Int) + 1) + 1 = 2 * (k : Int) + 1 + 2 := by omega
                  obtain ⟨u, v, hv, hu, hnx⟩ := spans_step hpall hk
                  rw [hnx]
                  rw [getD_at _ _ _ hj2] at hv
                  rw [getD_at _ _ _ g1] at hu
                  have y1 : W[2 * k + 1].size ≤ 100000 := by have := hwm _ (List.getElem_mem g1); omega
                  have y2 : W[2 * k + 2].size ≤ 100000 := by have := hwm _ (List.getElem_mem hj2); omega
                  have l1 := spansO_len (hpall k (by omega))
                  generalize spanK W k = SJ at *
                  have c1 : SJ.length + 1 ≤ 140737488355328 := by omega
                  have c2 : (SJ.length + 1) * 16 ≤ 140737488355328 := by omega
                  simp [kp34, g34, s75, rStr_enc, rSpn_enc, hj0I, hj0, i1, i2, e1, e2, e3, p0, p1, g1, hj2, wa, wb, c1, c2, hv, hu, y1, y2]
                · skip
                  have hj2 : 2 * q + 2 < W.length := by have hh := hql; unfold halfW at hh; omega
                  have g1 : 2 * q + 1 < W.length := by omega
                  have i1 : 2 * (q : Int) + 1 < W.length := by omega
                  have i2 : 2 * (q : Int) + 1 + 1 < W.length := by omega
                  have e1 : (2 * (q : Int) + 1).toNat = 2 * q + 1 := by omega
                  have e2 : (2 * (q : Int) + 1 + 1).toNat = 2 * q + 2 := by omega
                  have wa := wrap_small (2 * (q : Int) + 1 + 1) (by omega) (by omega)
                  have wb := wrap_small (2 * (q : Int) + 1 + 2) (by omega) (by omega)
                  have p0 : 0 ≤ 2 * (q : Int) + 1 := by omega
                  have p1 : 0 ≤ 2 * (q : Int) + 1 + 1 := by omega
                  have e3 : 2 * ((q : Int) + 1) + 1 = 2 * (q : Int) + 1 + 2 := by omega
                  rw [getD_at _ _ _ hj2, getD_at _ _ _ g1] at hqn
                  have y1 : W[2 * q + 1].size ≤ 100000 := by have := hwm _ (List.getElem_mem g1); omega
                  have y2 : W[2 * q + 2].size ≤ 100000 := by have := hwm _ (List.getElem_mem hj2); omega
                  have l1 := spansO_len (hpall q (by omega))
                  generalize spanK W q = SJ at *
                  have c1 : SJ.length + 1 ≤ 140737488355328 := by omega
                  have c2 : (SJ.length + 1) * 16 ≤ 140737488355328 := by omega
                  rcases hqn with hqn | ⟨⟨v, hv⟩, hqn⟩
                  · have hp := e75 _ y2 hqn
                    simp [kp34, g34, s75, rStr_enc, i1, i2, e1, e2, p0, p1, g1, hj2, wa, hqn, y2, hp, codeK_some]
                    intro g' a' w' I'
                    exact caught _ _ _ _ _ g' a' w' I' (by simp [getA]) (by simp [getA]) rfl rfl hread
                  · have hp := e75 _ y1 hqn
                    simp [kp34, g34, s75, pq34, rStr_enc, hj0I, hj0, i1, i2, e1, e2, p0, p1, g1, hj2, wa, c1, c2, hv, hqn, y1, y2, hp, codeK_some]
                    intro g' a' w' I'
                    exact caught _ _ _ _ _ g' a' w' I' (by simp [getA]) (by simp [getA]) rfl rfl hread
theorem call34 (xs : Array Value) (w : World) : (callFunc 34 xs).run Tryz.prog w = .ok (.enter 34 xs) w := by kernel_rfl
end Go.Proofs.YtkldmnladkcfeaaGreatDoor
