/-
  Library functions of strings as plain functions: Itoa, Split, Join, TrimSuffix. Conditions: none.
-/
import Derived.Test.YtkldmnladkcfeaaGreatDoorZShelf
import Derived.Test.YtkldmnladkcfeaaGreatDoorZPrB
import Derived.Test.YtkldmnladkcfeaaGreatDoorZRefC
import Derived.Lib.AppendIntMem
import Derived.Lib.SplitLaws
namespace Go.Proofs.YtkldmnladkcfeaaGreatDoor
open Go.RowKit Go.Lib
set_option linter.unusedSimpArgs false
set_option linter.unusedVariables false
theorem glob_len {m : Nat → Nat → Prop} {w : World} (h : GlobIn m w) : ∃ k, w.cell? ⟨0, 0, none⟩ = some (.int .i64 k) := by
  obtain ⟨_, cs, ty, fr, h1, _, k, rfl⟩ := h _ (List.mem_cons_self ..)
  exact ⟨k, by simp [World.cell?, h1]⟩
theorem glob_tab {m : Nat → Nat → Prop} {w : World} (h : GlobIn m w) : Lib.TabIs Tryz.prog w "internal/strconv.uint64pow10" .u64 Lib.pow10Tab := by
  obtain ⟨_, cs, ty, fr, h1, _, rfl⟩ := h _ (List.mem_cons_of_mem _ (List.mem_cons_self ..))
  unfold Lib.TabIs World.var?
  have e : Tryz.prog.globalNamed "internal/strconv.uint64pow10" = some 3 := by kernel_rfl
  rw [e]
  simp only [Option.bind_some]
  simp only at h1
  rw [h1]
def i64In (n : Int) : Prop := -9223372036854775808 ≤ n ∧ n ≤ 9223372036854775807
instance (n : Int) : Decidable (i64In n) := inferInstanceAs (Decidable (_ ∧ _))
def s92 : List D → Option D := sp1 cInt cStr fun n => if i64In n then some ⟨(Lib.itoa n).toArray⟩ else none
theorem ok92 : ∀ ds d, s92 ds = some d → PureC Tryz.prog 92 ds d := ok_sp1 fun n r hr => by
  split at hr
  · rename_i hc
    cases hr
    refine pure_words fun m w vs hm hG hr => ⟨.string ⟨(Lib.itoa n).toArray⟩, ?_, fun m' w' => by simp [cStr_enc, Rel]⟩
    simp only [cInt_enc, RelL, Rel] at hr
    obtain ⟨v, t, rfl, rfl, rfl⟩ := hr
    refine (Tryz.strconv_Itoa n hc.1 hc.2 w (glob_tab hG)).mono ?_
    rintro e w' ⟨rfl, k, os, rfl⟩
    exact ⟨rfl, below_grow _ w (Nat.le_refl _) k os⟩
  · cases hr
def splitW (s sep : ByteArray) : List ByteArray := splitB sep 0 (countB s sep) s
def s72 : List D → Option D := sp2 cStr cStr (cList rStr) fun s sep => if s.size < 100000 ∧ 1 ≤ sep.size then some (splitW s sep) else none
theorem ok72 : ∀ ds d, s72 ds = some d → PureC Tryz.prog 72 ds d := ok_sp2 fun s sep r hr => by
  split at hr
  · rename_i hc
    cases hr
    obtain ⟨hs, h1⟩ := hc
    have hlen : (splitW s sep).length = countB s sep + 1 := splitB_all sep h1 0 _ s rfl
    have hle := countB_le sep h1 s.size s (Nat.le_refl _)
    intro m w vs hm hG hr
    simp only [cStr_enc, RelL, Rel] at hr
    obtain ⟨v, t, rfl, rfl, v2, t2, rfl, rfl, rfl⟩ := hr
    obtain ⟨k, hk⟩ := glob_len hG
    refine (Tryz.strings_Split s sep k w (by omega) hk h1).mono ?_
    rintro e w' ⟨rfl, rfl⟩
    refine ⟨_, fun b o => b = w.heap.size, rfl, (Below.refl _ w).alloc (Nat.le_refl _) _, fun b o h => by subst h; simp, ?_⟩
    rw [cList_enc]
    simp only [Rel, List.length_map]
    rw [← hlen]
    refine ⟨by show (splitW s sep).length ≤ _; omega, _, _, rfl, Nat.le_refl _, .inr ⟨_, _, rfl, RelRows.of fun i r hi => ?_⟩⟩
    rw [List.getElem?_map] at hi
    cases hp : (splitW s sep)[i]? with
    | none => rw [hp] at hi; cases hi
    | some p =>
      rw [hp] at hi
      simp only [Option.map_some, Option.some.injEq] at hi
      subst hi
      refine ⟨rfl, ?_⟩
      simp only [rStr_enc, RelCells, Rel]
      refine ⟨⟨.string p, .inr trivial, ?_, rfl, rfl⟩, trivial⟩
      have hb := heap_at_new w (.cells ((splitW s sep).map Value.string).toArray 9)
      have e : (0 + i * rStr.k) = i := by rw [rStr_k]; omega
      rw [e]
      have hb' : (w.alloc (.cells ((splitB sep 0 (countB s sep) s).map Value.string).toArray 9)).heap[w.heap.size]? = some (.cells ((splitW s sep).map Value.string).toArray 9 (0, 0)) := hb
      simp only [World.cell?, hb']
      simp [hp]
  · cases hr
theorem call72 (xs : Array Value) (w : World) : (callFunc 72 xs).run Tryz.prog w = .ok (.enter 72 xs) w := by kernel_rfl
theorem call92 (xs : Array Value) (w : World) : (callFunc 92 xs).run Tryz.prog w = .ok (.enter 92 xs) w := by kernel_rfl
theorem call93 (xs : Array Value) (w : World) : (callFunc 93 xs).run Tryz.prog w = .ok (.enter 93 xs) w := by kernel_rfl
def joinV (l : List ByteArray) (sep : ByteArray) : ByteArray := ⟨(Lib.join (l.map (·.data.toList)) sep.data.toList).toArray⟩
def s93 : List D → Option D := sp2 (cList rStr) cStr cStr fun l sep => if 0 < l.length ∧ l.length ≤ 100000 ∧ (joinV l sep).size ≤ 100000 then some (joinV l sep) else none
theorem ok93 : ∀ ds d, s93 ds = some d → PureC Tryz.prog 93 ds d := ok_sp2 fun l sep r hr => by
  split at hr
  · rename_i hc
    cases hr
    obtain ⟨h0, h1, h2⟩ := hc
    refine pure_words fun m w vs hm hG hr => ⟨.string (joinV l sep), ?_, fun m' w' => by simp [cStr_enc, Rel]⟩
    simp only [cList_enc, cStr_enc, RelL, Rel, List.length_map] at hr
    obtain ⟨v, t, rfl, ⟨_, a, c, rfl, hlc, hx⟩, v2, t2, rfl, rfl, rfl⟩ := hr
    have hne : l.map rStr.enc ≠ [] := by
      intro e
      have := congrArg List.length e
      simp at this
      rw [this] at h0
      simp at h0
    obtain ⟨b, o, rfl, hrows⟩ := hx.resolve_left hne
    have hcell : ∀ (j : Nat) x, l[j]? = some x → m b (o + j) ∧ w.cell? ⟨b, o + j, none⟩ = some (.string x) := fun j x hj => by
      obtain ⟨_, hc⟩ := hrows.get j (rStr.enc x) (by rw [List.getElem?_map, hj]; rfl)
      simp only [rStr_enc, RelCells, Rel] at hc
      obtain ⟨⟨v, q1, q2, _, q3⟩, _⟩ := hc
      subst q3
      rw [show o + j * rStr.k = o + j by rw [rStr_k]; omega] at q1 q2
      exact ⟨q1, q2⟩
    have hb : b < w.heap.size := hm _ _ (hcell 0 _ (List.getElem?_eq_getElem h0)).1
    refine (Tryz.strings_Join b o c l sep w (fun j x hj => (hcell j x hj).2) hb (by omega) hlc ?_).mono ?_
    · have : (joinV l sep).size = (Lib.join (l.map (·.data.toList)) sep.data.toList).length := by simp [joinV, ByteArray.size]
      omega
    · rintro e w' ⟨rfl, h⟩
      exact ⟨rfl, h⟩
  · cases hr
def trimV (s p : ByteArray) : ByteArray := ⟨(Lib.trimSuffix s.data.toList p.data.toList).toArray⟩
def s73 : List D → Option D := sp2 cStr cStr cStr fun s p => if s.size < 100000 then some (trimV s p) else none
theorem ok73 : ∀ ds d, s73 ds = some d → PureC Tryz.prog 73 ds d := ok_sp2 fun s p r hr => by
  split at hr
  · rename_i hc
    cases hr
    refine pure_words fun m w vs hm hG hr => ⟨.string (trimV s p), ?_, fun m' w' => by simp [cStr_enc, Rel]⟩
    simp only [cStr_enc, RelL, Rel] at hr
    obtain ⟨v, t, rfl, rfl, v2, t2, rfl, rfl, rfl⟩ := hr
    refine (Tryz.strings_TrimSuffix s p w (by omega)).mono ?_
    rintro e w' ⟨rfl, rfl⟩
    exact ⟨rfl, Below.refl _ _⟩
  · cases hr
theorem call73 (xs : Array Value) (w : World) : (callFunc 73 xs).run Tryz.prog w = .ok (.enter 73 xs) w := by kernel_rfl
end Go.Proofs.YtkldmnladkcfeaaGreatDoor
namespace Go.Proofs.YtkldmnladkcfeaaGreatDoor
open Go.RowKit Go.Lib
set_option linter.unusedSimpArgs false
set_option linter.unusedVariables false
def kp69 (r : Nat) : List (Nat × Option Nat) := match r with
  | 0 => [(1, none)]
  | 1 => [(1, none), (3, some 1)]
  | 2 => [(1, none), (3, some 1), (13, none), (14, none), (15, none)]
  | 3 => [(1, none), (3, some 1), (13, none), (14, none), (15, none), (16, none)]
  | 4 => [(1, none), (3, some 1), (5, none), (13, none), (14, none), (15, none)]
  | 5 => [(1, none), (3, some 1), (13, none), (14, none), (15, none)]
  | 6 => [(1, none), (3, some 1), (13, none), (14, none), (15, none)]
  | 7 => [(1, none), (6, none)]
  | 8 => [(6, none), (37, none), (38, none), (39, none)]
  | 9 => [(6, none), (37, none), (38, none), (39, none), (40, none)]
  | 10 => [(6, none), (8, none), (37, none), (38, none), (39, none)]
  | 11 => [(3, some 1), (6, none), (8, none), (37, none), (38, none), (39, none)]
  | 12 => [(3, some 1), (6, none), (37, none), (38, none), (39, none), (47, none), (48, none), (49, none)]
  | 13 => [(3, some 1), (6, none), (37, none), (38, none), (39, none), (47, none), (48, none), (49, none), (50, none)]
  | 14 => [(3, some 1), (6, none), (10, none), (37, none), (38, none), (39, none), (47, none), (48, none), (49, none)]
  | 15 => [(3, some 1), (6, none), (37, none), (38, none), (39, none), (47, none), (48, none), (49, none)]
  | 16 => [(3, some 1), (6, none), (37, none), (38, none), (39, none), (47, none), (48, none), (49, none)]
  | 17 => [(6, none), (37, none), (38, none), (39, none)]
  | 18 => [(6, none), (37, none), (38, none), (39, none)]
  | 19 => [(2, none)]
  | _ => []
def kp32 (r : Nat) : List (Nat × Option Nat) := match r with
  | 0 => [(1, none)]
  | 1 => [(1, none), (6, none)]
  | 2 => [(1, none), (6, none), (14, none)]
  | 3 => [(2, none), (3, none)]
  | 4 => [(2, none), (3, none)]
  | _ => []
theorem ba_ext {a b : ByteArray} (h : a.data.toList = b.data.toList) : a = b := by
  apply ByteArray.ext
  exact Array.toList_inj.1 h
theorem itoa_dig {n : Int} (h : 0 ≤ n) : (⟨(Lib.itoa n).toArray⟩ : ByteArray) = digV n.toNat := by
  unfold digV Lib.itoa
  rw [if_neg (by omega)]
def tailV (l : List ByteArray) : ByteArray := ⟨(joinTail [32] (l.map (·.data.toList))).toArray⟩
theorem joinV_cons (h : ByteArray) (r : List ByteArray) : joinV (h :: r) spB = h ++ tailV r := by
  apply ba_ext
  simp only [joinV, tailV, List.map_cons, ByteArray.data_append, Array.toList_append, List.toList_toArray]
  exact join_cons _ _ _
theorem tailV_app (r s : List ByteArray) : tailV (r ++ s) = tailV r ++ tailV s := by
  apply ba_ext
  simp [tailV, joinTail, ByteArray.data_append]
theorem tailV_two (a b : ByteArray) : tailV [a, b] = spB ++ a ++ spB ++ b := by
  apply ba_ext
  simp [tailV, joinTail, ByteArray.data_append, spB]
theorem tailV_nil : tailV [] = ⟨#[]⟩ := rfl
theorem ba_nil (a : ByteArray) : a ++ ⟨#[]⟩ = a := by
  apply ba_ext
  simp [ByteArray.data_append]
def wordsP (x : Tbl) : Nat → List ByteArray
  | 0 => []
  | p + 1 => wordsP x p ++ [(x.props.getD p default).name, digV (errV x p).toNat]
def wordsQ (x : Tbl) (k : Nat) : Nat → List ByteArray
  | 0 => []
  | p + 1 => wordsQ x k p ++ [digV (rngV x k p).lo.toNat, digV (rngV x k p).hi.toNat]
@[simp] theorem wordsP_zero (x : Tbl) : wordsP x 0 = [] := rfl
@[simp] theorem wordsQ_zero (x : Tbl) (k : Nat) : wordsQ x k 0 = [] := rfl
theorem wordsP_len (x : Tbl) : ∀ p, (wordsP x p).length = 2 * p
  | 0 => rfl
  | p + 1 => by rw [wordsP, List.length_append, wordsP_len x p]; simp; omega
theorem wordsQ_len (x : Tbl) (k : Nat) : ∀ p, (wordsQ x k p).length = 2 * p
  | 0 => rfl
  | p + 1 => by rw [wordsQ, List.length_append, wordsQ_len x k p]; simp; omega
theorem textP_join (x : Tbl) : ∀ p, joinV (tsB :: wordsP x p) spB = textP x p
  | 0 => by rw [joinV_cons, wordsP, tailV_nil, ba_nil]; rfl
  | p + 1 => by
    have ih := textP_join x p
    rw [joinV_cons] at ih
    rw [joinV_cons, wordsP, tailV_app, tailV_two, textP, ← ih]
    apply ba_ext
    simp [ByteArray.data_append]
theorem textQ_join (x : Tbl) (k : Nat) (o h : ByteArray) : ∀ p, o ++ joinV (h :: wordsQ x k p) spB = textQ x k (o ++ h) p
  | 0 => by rw [joinV_cons, wordsQ, tailV_nil, ba_nil]; rfl
  | p + 1 => by
    have ih := textQ_join x k o h p
    rw [joinV_cons] at ih
    rw [joinV_cons, wordsQ, tailV_app, tailV_two, textQ, ← ih]
    apply ba_ext
    simp [ByteArray.data_append]
theorem textK_join (x : Tbl) {k : Nat} (hk : k < x.kinds.length) : textK x (k + 1) = textK x k ++ (joinV (x.kinds[k].name :: wordsQ x k x.props.length) spB ++ nlB) := by
  rw [textK, getD_at _ _ _ hk, ← textQ_join]
  apply ba_ext
  simp [ByteArray.data_append]
theorem strc_dec (a : ByteArray) (l : List ByteArray) : (cList rStr).dec (.sl 1 ([DS a] :: l.map rStr.enc)) = some (a :: l) := rStr_decL (a :: l)
def md69 (r : Nat) : Nat := if r = 5 then 1007 else if r = 15 then 1008 else 0
def g69 : List (Nat × (List D → Option D)) := (92, s92) :: (93, s93) :: []
theorem dg69 : DelOk Tryz.prog (delOf g69) := del_cons (del_cons del_nil call93 ok93) call92 ok92
theorem cx69 : CxOk Tryz.prog (mkCxE g69 [] 70 kp69 [] (fun _ => []) md69 [] []) := mkCxE_ok dg69 eff_nil keys_nil (sq := []) (fun _ _ _ h => by cases h) 70 kp69 [] (fun _ => []) md69
def s69 : List D → Option D := sp1 (cAgg rTbl) cStr fun x => if okT x then some (textV x) else none
set_option maxHeartbeats 8000000 in
theorem ok69 : ∀ ds d, s69 ds = some d → PureC Tryz.prog 69 ds d := ok_sp1 fun x r hr => by
  split at hr
  · rename_i hT
    cases hr
    have f := fine_of hT
    have hp5 := f.p5
    have hk8 := f.k8
    have c1 : spB = ⟨#[32]⟩ := rfl
    have c2 : nlB = ⟨#[10]⟩ := rfl
    have c3 : tsB = ⟨#[116, 101, 115, 116, 115]⟩ := rfl
    have c4 : puB = ⟨#[10, 112, 117, 114, 101, 32]⟩ := rfl
    have z2 : (⟨#[10]⟩ : ByteArray).size = 1 := rfl
    have z4 : (⟨#[10, 112, 117, 114, 101, 32]⟩ : ByteArray).size = 6 := rfl
    refine pure_of_call cx69 Tryz.func69 rfl rfl (Nat.le_of_ble_eq_true rfl) (by kernel_rfl) ?_
    rw [Tryz.results69]
    simp [kp69, md69, rTbl_enc, rPrp_k]
    (generalize hLoopQ : Cx.loop _ _ _ = rLoopQ; apply loop_then hLoopQ (fun k => ⟨[(1, .loc 1 0), (3, .sl 1 ((tsB :: wordsP x k).map rStr.enc) (.tok 3)), (13, .d (.sl 2 (x.props.map rPrp.enc))), (14, .d (DI x.props.length)), (15, .d (DI k))], [(1, [.d (.sl 2 (x.props.map rPrp.enc)), .d (.sl 2 (x.kinds.map rKnd.enc)), .d (DI x.purity)])], [3], []⟩) x.props.length (by first | (simp; done) | (simp; rfl) | (simp; simp [*])); rotate_left; (show _ < 281474976710656; omega); rfl; rotate_left; all_goals clear hLoopQ)
    · intro j hj
      have w1 := wrap_small ((j : Int) + 1) (by omega) (by omega)
      have hjl : (j : Int) < x.props.length := by omega
      have he := errV_at hj
      have hev := f.errv hj
      have hi : i64In (errV x j) := ⟨by omega, by omega⟩
      have hit := itoa_dig hev.1
      have hwl := wordsP_len x j
      rw [wordsP, getD_at _ _ _ hj, ← hit]
      generalize wordsP x j = W at *
      have q1 : W.length + 1 + 2 ≤ 140737488355328 := by omega
      have q2 : (W.length + 1 + 2) * 16 ≤ 140737488355328 := by omega
      simp [kp69, md69, g69, s92, rPrp_enc, rStr_enc, hj, hjl, he, hi, w1, q1, q2]
      done
    · have hz := textP_size f x.props.length (Nat.le_refl _)
      have hd := dig6 (n := x.purity) (by have := f.u2; omega)
      have hu0 : 0 ≤ x.purity := by have := f.u1; omega
      have hi : i64In x.purity := ⟨by omega, by have := f.u2; omega⟩
      have hit := itoa_dig hu0
      have hJ := textP_join x x.props.length
      have hwl := wordsP_len x x.props.length
      have hK0 : textK x 0 = textP x x.props.length ++ puB ++ digV x.purity.toNat ++ nlB := rfl
      rw [c4, c2] at hK0
      rw [c1, c3] at hJ
      rw [c3]
      generalize wordsP x x.props.length = W at *
      generalize textP x x.props.length = o at *
      have k0 : W.length + 1 ≤ 100000 := by omega
      have k5 : o.size ≤ 100000 := by omega
      have k1 : o.size + 6 ≤ 9223372036854775807 := by omega
      have k1' : o.size ≤ 9223372036854775801 := by omega
      have k2 : o.size + 6 + (digV x.purity.toNat).size ≤ 9223372036854775807 := by omega
      have k3 : o.size + 6 + (digV x.purity.toNat).size + 1 ≤ 9223372036854775807 := by omega
      have k3' : o.size + 6 + (digV x.purity.toNat).size ≤ 9223372036854775806 := by omega
      simp [kp69, md69, g69, s92, s93, rStr_enc, strc_dec, hJ, hi, hit, k0, k5, z2, z4, k1, k1', k2, k3, k3', ByteArray.size_append, rKnd_k]
      rw [← hK0]
      clear hK0 hJ k0 k5 k1 k1' k2 k3 k3' hwl hz
      (generalize hLoopQ : Cx.loop _ _ _ = rLoopQ; apply loop_then hLoopQ (fun k => ⟨[(6, .d (DS (textK x k))), (37, .d (.sl 2 (x.kinds.map rKnd.enc))), (38, .d (DI x.kinds.length)), (39, .d (DI k))], [], [], []⟩) x.kinds.length rfl; rotate_left; (show _ < 281474976710656; omega); rfl; rotate_left; all_goals clear hLoopQ)
      · intro j hj
        have w1 := wrap_small ((j : Int) + 1) (by omega) (by omega)
        have hjl : (j : Int) < x.kinds.length := by omega
        have hz := textK_size f j (by omega)
        have hz1 := textK_size f (j + 1) (by omega)
        have hspan := f.span j hj
        rw [textK_join x hj] at hz1 ⊢
        rw [ByteArray.size_append, ByteArray.size_append, c2, z2, c1] at hz1
        rw [c1, c2]
        generalize textK x j = o at *
        obtain ⟨nm, hnm⟩ : ∃ nm, nm = x.kinds[j].name := ⟨_, rfl⟩
        rw [← hnm] at hz1 ⊢
        simp [kp69, md69, rKnd_enc, rSpn_k, hj, hjl, ← hnm, hspan.1]
        (generalize hLoopQ : Cx.loop _ _ _ = rLoopQ; apply loop_then hLoopQ (fun p => ⟨[(3, .sl 1 ((nm :: wordsQ x j p).map rStr.enc) (.tok 3)), (6, .d (DS o)), (37, .d (.sl 2 (x.kinds.map rKnd.enc))), (38, .d (DI x.kinds.length)), (39, .d (DI j)), (47, .d (.sl 2 (x.kinds[j].props.map rSpn.enc))), (48, .d (DI x.props.length)), (49, .d (DI p))], [], [3], []⟩) x.props.length (by first | (simp; done) | (simp; rfl) | (simp; simp [*])); rotate_left; (show _ < 281474976710656; omega); rfl; rotate_left; all_goals clear hLoopQ)
        · intro p hp
          have wp := wrap_small ((p : Int) + 1) (by omega) (by omega)
          have hpl : (p : Int) < x.props.length := by omega
          obtain ⟨hpa, ea, r1, r2, r3⟩ := f.rng hj hp
          have hpaI : (p : Int) < x.kinds[j].props.length := by omega
          have i1 : i64In (rngV x j p).lo := ⟨by omega, by omega⟩
          have i2 : i64In (rngV x j p).hi := ⟨by omega, by omega⟩
          have t1 := itoa_dig r1
          have t2 := itoa_dig (n := (rngV x j p).hi) (by omega)
          have hwl := wordsQ_len x j p
          rw [wordsQ, ← t1, ← t2]
          generalize wordsQ x j p = W at *
          have q1 : W.length + 1 + 2 ≤ 140737488355328 := by omega
          have q2 : (W.length + 1 + 2) * 16 ≤ 140737488355328 := by omega
          simp [kp69, md69, g69, s92, rSpn_enc, rStr_enc, hp, hpl, hpa, hpaI, ea, i1, i2, wp, q1, q2]
        · have hwl := wordsQ_len x j x.props.length
          generalize wordsQ x j x.props.length = W at *
          generalize hS : joinV (nm :: W) ⟨#[32]⟩ = S at *
          have k0 : W.length + 1 ≤ 100000 := by omega
          have k5 : S.size ≤ 100000 := by omega
          have k1 : S.size + 1 ≤ 9223372036854775807 := by omega
          have k2 : o.size + (S.size + 1) ≤ 9223372036854775807 := by omega
          simp [kp69, md69, g69, s93, rStr_enc, strc_dec, hS, k0, k5, z2, k1, k2, w1, ByteArray.size_append]
          done
      · simp [kp69, textV]
  · cases hr
theorem call69 (xs : Array Value) (w : World) : (callFunc 69 xs).run Tryz.prog w = .ok (.enter 69 xs) w := by kernel_rfl
def g32 : List (Nat × (List D → Option D)) := (16, s16) :: (69, s69) :: []
theorem dg32 : DelOk Tryz.prog (delOf g32) := del_cons (del_cons del_nil call69 ok69) call16 ok16
def s32 : List D → Option D := sp1 (cAgg rTbl) (cTup2 cStr cInt) fun x => if namesOk x then some (writeR x) else none
theorem ok32 : ∀ ds d, s32 ds = some d → PureC Tryz.prog 32 ds d := ok_sp1 fun x r hr => by
  split at hr
  · rename_i hnm
    cases hr
    refine pure_of_call (mkCx_ok dg32 18 kp32 []) Tryz.func32 rfl rfl (Nat.le_of_ble_eq_true rfl) (by kernel_rfl) ?_
    rw [Tryz.results32]
    unfold writeR
    by_cases h : okT x
    · have h1 : (chk x).2.2 = 0 := h
      simp [kp32, rTbl_enc, rTbl_dec, g32, s16, s69, hnm, h, h1]
    · have h1 : ¬ (chk x).2.2 = 0 := h
      have h2 : ((chk x).2.2 != 0) = true := by simpa using h1
      simp [kp32, rTbl_enc, rTbl_dec, g32, s16, hnm, h, h1, h2]
  · cases hr
theorem call32 (xs : Array Value) (w : World) : (callFunc 32 xs).run Tryz.prog w = .ok (.enter 32 xs) w := by kernel_rfl
end Go.Proofs.YtkldmnladkcfeaaGreatDoor
