/-
  The program's Read and the reference's are the same function, second part. No walk here. Conditions: none.
-/
import Derived.Test.YtcgacojnfkklaaaGreatDoorZRdL
namespace Go.Proofs.YtcgacojnfkklaaaGreatDoor
open Go.RowKit Go.Lib
set_option linter.unusedSimpArgs false
set_option linter.unusedVariables false
theorem name_clean {s : ByteArray} (h : refName s = true) {c : UInt8} (hc : c.toNat < 45) : c ∉ s.data.toList := by
  intro hm
  obtain ⟨i, hi, he⟩ := List.getElem_of_mem hm
  have his : i < s.size := by simpa using hi
  obtain ⟨y, h1, h2⟩ := byteAt_at s i his
  rw [List.getElem?_eq_getElem hi, he] at h1
  cases h1
  have := ((nmAt_iff s i).1 (((refName_iff s).1 h).2.2.2 i his)).1
  rw [h2] at this
  omega
theorem dig_clean (n : Nat) {c : UInt8} (hc : c.toNat < 48) : c ∉ decDigits n := fun hm => by
  have := digit_byte n c hm
  omega
theorem mem_join {c : UInt8} : ∀ {l : List (List UInt8)} {sep : List UInt8}, c ∈ join l sep → c ∈ sep ∨ ∃ p ∈ l, c ∈ p
  | [], sep, h => by rw [join_nil] at h; cases h
  | [a], sep, h => by rw [join_one] at h; exact .inr ⟨a, by simp, h⟩
  | a :: b :: t, sep, h => by
    rw [join_two _ _ _ (by simp), List.mem_append, List.mem_append] at h
    rcases h with (h | h) | h
    · exact .inr ⟨a, by simp, h⟩
    · exact .inl h
    · rcases mem_join h with h | ⟨p, h1, h2⟩
      · exact .inl h
      · exact .inr ⟨p, by simp [h1], h2⟩
def bytesL (l : List ByteArray) : List (List UInt8) := l.map (·.data.toList)
theorem bytesL_inj {a b : List ByteArray} (h : bytesL a = bytesL b) : a = b := by
  induction a generalizing b with
  | nil => cases b with
    | nil => rfl
    | cons y t => cases h
  | cons x s ih =>
    cases b with
    | nil => cases h
    | cons y t =>
      simp only [bytesL, List.map_cons, List.cons.injEq] at h
      rw [ba_ext h.1, ih h.2]
theorem words_of {x : Dsh} {d : Dip} (h : okD x d) : ∃ (B S T : Nat), d.bath = B ∧ d.secs = S ∧ d.pause = T ∧ S < 1000 ∧ T < 1000 ∧ ∃ hB : B < x.baths.length, refName x.baths[B].name = true ∧ wordsV x d = if d.turned then [x.baths[B].name, digV S, digV T, turnB] else [x.baths[B].name, digV S, digV T] := by
  obtain ⟨B, e1, hB, h6, hn, ⟨S, e2, hS⟩, T, e3, hT⟩ := okD_all h
  refine ⟨B, S, T, e1, e2, e3, by omega, by omega, hB, (bathE_zero ((baths_of h.1).2.2.2 B hB)).1, ?_⟩
  unfold wordsV
  rw [e1, e2, e3, Int.toNat_natCast, getD_at _ _ _ hB, itoa_dig, itoa_dig]
theorem digV_bytes (n : Nat) : (digV n).data.toList = decDigits n := by simp [digV]
theorem words_clean {x : Dsh} {d : Dip} (h : okD x d) {c : UInt8} (hc : c = 10 ∨ c = 32) : ∀ p ∈ bytesL (wordsV x d), c ∉ p := by
  obtain ⟨B, S, T, _, _, _, _, _, hB, hn, hw⟩ := words_of h
  have c1 : c.toNat < 45 := by rcases hc with rfl | rfl <;> decide
  have c2 : c.toNat < 48 := by omega
  have c3 : c ∉ turnB.data.toList := by rcases hc with rfl | rfl <;> decide
  intro p hp
  rw [hw] at hp
  unfold bytesL at hp
  split at hp
  · simp only [List.map_cons, List.map_nil, List.mem_cons, List.not_mem_nil, or_false] at hp
    rcases hp with rfl | rfl | rfl | rfl
    · exact name_clean hn c1
    · rw [digV_bytes]; exact dig_clean S c2
    · rw [digV_bytes]; exact dig_clean T c2
    · exact c3
  · simp only [List.map_cons, List.map_nil, List.mem_cons, List.not_mem_nil, or_false] at hp
    rcases hp with rfl | rfl | rfl
    · exact name_clean hn c1
    · rw [digV_bytes]; exact dig_clean S c2
    · rw [digV_bytes]; exact dig_clean T c2
theorem words_ne (x : Dsh) (d : Dip) : bytesL (wordsV x d) ≠ [] := by
  unfold bytesL wordsV
  split <;> simp
def lineL (x : Dsh) (d : Dip) : List UInt8 := join (bytesL (wordsV x d)) [32]
theorem line_clean {x : Dsh} {d : Dip} (h : okD x d) : (10 : UInt8) ∉ lineL x d := by
  intro hm
  rcases mem_join hm with h1 | ⟨p, h1, h2⟩
  · simp at h1
  · exact words_clean h (.inl rfl) p h1 h2
theorem line_words {x : Dsh} {d : Dip} (h : okD x d) : splitL 32 (lineL x d) = bytesL (wordsV x d) := splitL_join (words_ne x d) (words_clean h (.inr rfl))
def textB (x : Dsh) (l : List Dip) : List UInt8 := l.flatMap fun d => lineL x d ++ [10]
theorem textB_cons (x : Dsh) (d : Dip) (l : List Dip) : textB x (d :: l) = lineL x d ++ 10 :: textB x l := by simp [textB]
theorem textB_app (x : Dsh) (l : List Dip) (d : Dip) : textB x (l ++ [d]) = textB x l ++ (lineL x d ++ [10]) := by simp [textB]
theorem lineT_bytes {x : Dsh} {d : Dip} (h : okD x d) (o : ByteArray) : (lineT x o d).data.toList = o.data.toList ++ (lineL x d ++ [10]) := by
  obtain ⟨B, S, T, _, e2, e3, _⟩ := words_of h
  rw [line_join x o d S T e2 e3]
  simp only [ByteArray.data_append, Array.toList_append, joinV, lineL, bytesL]
  rfl
theorem text_bytes {x : Dsh} {l : List Dip} (h : okL x l) : (textV x l).data.toList = textB x l := by
  have key : ∀ k, k ≤ l.length → (textL x l k).data.toList = textB x (l.take k) := by
    intro k
    induction k with
    | zero => intro _; simp [textL, textB]
    | succ k ih =>
      intro hk
      rw [textL, getD_at _ _ _ (by omega), lineT_bytes (okL_at h k (by omega)), ih (by omega), List.take_add_one, List.getElem?_eq_getElem (by omega)]
      simp only [Option.toList_some]
      rw [textB_app]
  unfold textV
  rw [key l.length (Nat.le_refl _), List.take_length]
theorem name_once {x : Dsh} (h : (dchk x).2.2 = 0) {j k : Nat} (hj : j < x.baths.length) (hk : k < x.baths.length) (he : (x.baths[j].name.toList == x.baths[k].name.toList) = true) : j = k := by
  have key : ∀ j k (hj : j < x.baths.length) (hk : k < x.baths.length), j < k → (x.baths[j].name.toList == x.baths[k].name.toList) = false := by
    intro j k hj hk hjk
    have hs := (bathE_zero ((baths_of h).2.2.2 k hk)).2.1
    unfold seenB at hs
    rw [List.any_eq_false] at hs
    have := hs x.baths[j] (by
      rw [List.mem_take_iff_getElem]
      exact ⟨j, by omega, rfl⟩)
    simpa using this
  rcases Nat.lt_trichotomy j k with h1 | h1 | h1
  · rw [key j k hj hk h1] at he; cases he
  · exact h1
  · have := key k j hk hj h1
    rw [beq_iff_eq] at he
    rw [he] at this
    simp at this
theorem first_of {x : Dsh} {d : Dip} (h : okD x d) : idxF (firstB (wordsV x d)) x.baths = d.bath := by
  obtain ⟨B, S, T, e1, _, _, _, _, hB, hn, hw⟩ := words_of h
  have h0 : (wordsV x d).getD 0 ⟨#[]⟩ = x.baths[B].name := by
    rw [hw]; split <;> rfl
  have hf : ∀ k (hk : k < x.baths.length), firstB (wordsV x d) x.baths[k] = (x.baths[k].name.toList == x.baths[B].name.toList) := fun k hk => by
    unfold firstB; rw [h0]
  rcases idxF_cases (firstB (wordsV x d)) x.baths with ⟨_, _, hno⟩ | ⟨k, hk, e, _, hyes, _⟩
  · have := hno B hB
    rw [hf B hB] at this
    simp at this
  · rw [hf k hk] at hyes
    rw [e, e1, name_once h.1 hk hB hyes]
theorem splitW_words {x : Dsh} {d : Dip} (h : okD x d) {s : ByteArray} (hs : s.data.toList = lineL x d) : splitW s ⟨#[32]⟩ = wordsV x d := by
  apply bytesL_inj
  unfold bytesL splitW
  rw [splitB_one, hs]
  exact line_words h
theorem form_words {x : Dsh} {d : Dip} (h : okD x d) : formB (wordsV x d) = true ∧ ((wordsV x d).length == 4) = d.turned := by
  obtain ⟨B, S, T, _, _, _, _, _, hB, hn, hw⟩ := words_of h
  rw [hw]
  cases d.turned <;> simp [formB]
theorem step_fwd {x : Dsh} {d : Dip} (h : okD x d) {k : Nat} (hk : k < 30) {s : ByteArray} {r : List UInt8} (hs : s.data.toList = lineL x d ++ 10 :: r) : stepP x k s = some (d, ⟨r.toArray⟩) := by
  obtain ⟨A, B, hc, hB, hW, _, _⟩ := round_at s
  rw [hs, cut_at r (line_clean h)] at hc
  simp only [Prod.mk.injEq] at hc
  obtain ⟨rfl, rfl, hh⟩ := hc
  have hws : wordsB s = wordsV x d := by rw [← hW]; exact splitW_words h (by simp)
  obtain ⟨f1, f2⟩ := form_words h
  obtain ⟨b, S, T, e1, e2, e3, hS, hT, _, _, hw⟩ := words_of h
  have g1 : (wordsV x d).getD 1 ⟨#[]⟩ = digV S := by rw [hw]; split <;> rfl
  have g2 : (wordsV x d).getD 2 ⟨#[]⟩ = digV T := by rw [hw]; split <;> rfl
  have hd : dipB x (wordsV x d) S T = d := by
    unfold dipB
    rw [first_of h, f2, ← e2, ← e3]
  unfold stepP
  rw [hws, ← hh, f1, if_pos ⟨rfl, rfl⟩, g1, g2, numP_dig hS, numP_dig hT]
  simp only [hd]
  rw [if_pos ⟨h.2, hk⟩, hB]
theorem run_fwd {x : Dsh} {l : List Dip} (h : okL x l) {t : ByteArray} (ht : t.data.toList = textB x l) : ∀ k, k ≤ l.length → runP x t k = some (⟨(textB x (l.drop k)).toArray⟩, l.take k)
  | 0, _ => by simp only [runP, List.drop_zero, List.take_zero, ← ht, Array.toArray_toList]
  | k + 1, hk => by
    have h1 := run_fwd h ht k (by omega)
    have hkl : k < l.length := by omega
    have hdrop : l.drop k = l[k] :: l.drop (k + 1) := List.drop_eq_getElem_cons hkl
    have hst := step_fwd (okL_at h k hkl) (k := k) (by have := h.2.1; omega) (s := ⟨(textB x (l.drop k)).toArray⟩) (r := textB x (l.drop (k + 1))) (by rw [hdrop, textB_cons])
    simp only [runP, h1, hst]
    rw [if_neg, List.take_add_one, List.getElem?_eq_getElem hkl]
    · rfl
    · rw [ba_size, hdrop, textB_cons]; simp
theorem readP_fwd {x : Dsh} {l : List Dip} (h : okL x l) {t : ByteArray} (ht : t.data.toList = textB x l) (h2 : ¬ 2000 < t.size) : readP x t = (l, 0) := by
  have h1 := run_fwd h ht l.length (Nat.le_refl _)
  rw [List.drop_length, List.take_length] at h1
  have hz : (⟨(textB x []).toArray⟩ : ByteArray).size = 0 := rfl
  rw [readP_at h.1 h2 h1 (by simp only [runP, h1, if_pos hz]), if_pos hz]
theorem step_back {x : Dsh} (h1 : (dchk x).2.2 = 0) {k : Nat} {s : ByteArray} {d : Dip} {r : ByteArray} (h : stepP x k s = some (d, r)) : s.data.toList = lineL x d ++ 10 :: r.data.toList ∧ dipE x d = 0 := by
  obtain ⟨hh, hf, a, b, ha, hb, rfl, hde, _, hr⟩ := stepP_some h
  obtain ⟨A, B, hc, hB, hW, _, _⟩ := round_at s
  rw [hh] at hc
  obtain ⟨q1, q2⟩ := cut_back hc
  refine ⟨?_, hde⟩
  rw [hr, hB, q1]
  have hbw : bytesL (wordsB s) = splitL 32 A := by
    rw [← hW]
    unfold bytesL splitW
    rw [splitB_one]
  have hA : A = join (bytesL (wordsB s)) [32] := by rw [hbw, join_splitL]
  have hok : okD x (dipB x (wordsB s) a b) := ⟨h1, hde⟩
  obtain ⟨C, S, T, e1, e2, e3, _, _, hC, _, hw⟩ := words_of hok
  have hwe : wordsV x (dipB x (wordsB s) a b) = wordsB s := by
    have hs1 : (wordsB s).getD 1 ⟨#[]⟩ = digV S := by rw [numP_back ha, ← itoa_dig, ← e2]; rfl
    have hs2 : (wordsB s).getD 2 ⟨#[]⟩ = digV T := by rw [numP_back hb, ← itoa_dig, ← e3]; rfl
    have hs0 : (wordsB s).getD 0 ⟨#[]⟩ = x.baths[C].name := by
      rcases idxF_cases (firstB (wordsB s)) x.baths with ⟨e, _, _⟩ | ⟨k, hk, e, _, hyes, _⟩
      · have : (dipB x (wordsB s) a b).bath = -1 := e
        rw [e1] at this; omega
      · have : (dipB x (wordsB s) a b).bath = k := e
        rw [e1] at this
        have hkC : k = C := by omega
        subst hkC
        unfold firstB at hyes
        rw [ByteArray.toList_eq, ByteArray.toList_eq, beq_iff_eq] at hyes
        exact (ba_ext hyes).symm
    rw [hw]
    have ht : (dipB x (wordsB s) a b).turned = ((wordsB s).length == 4) := rfl
    rw [ht]
    generalize wordsB s = ws at *
    unfold formB at hf
    simp only [Bool.or_eq_true, Bool.and_eq_true, beq_iff_eq] at hf
    rcases hf with h3 | ⟨h4, h5⟩
    · match ws, h3 with
      | [p, q, r], _ =>
        simp at hs0 hs1 hs2
        simp [hs0, hs1, hs2]
    · match ws, h4 with
      | [p, q, r, u], _ =>
        simp only [List.getD_cons_succ, List.getD_cons_zero] at h5
        have hu : u = turnB := by
          rw [ByteArray.toList_eq, ByteArray.toList_eq] at h5
          exact ba_ext h5
        simp at hs0 hs1 hs2
        simp [hs0, hs1, hs2, hu]
  unfold lineL
  rw [hwe, ← hA]
theorem run_back {x : Dsh} (h1 : (dchk x).2.2 = 0) {t : ByteArray} : ∀ (k : Nat) (s : ByteArray) (l : List Dip), runP x t k = some (s, l) → t.data.toList = textB x l ++ s.data.toList ∧ ∀ d ∈ l, dipE x d = 0
  | 0, s, l, h => by
    simp only [runP, Option.some.injEq, Prod.mk.injEq] at h
    obtain ⟨rfl, rfl⟩ := h
    exact ⟨rfl, fun d hd => by cases hd⟩
  | k + 1, s, l, h => by
    obtain ⟨s', l', d, h2, _, h3, rfl⟩ := runP_down h
    obtain ⟨q1, q2⟩ := run_back h1 k s' l' h2
    obtain ⟨q3, q4⟩ := step_back h1 h3
    refine ⟨by rw [q1, q3, textB_app]; simp, fun d' hd => ?_⟩
    rcases List.mem_append.1 hd with hd | hd
    · exact q2 d' hd
    · rw [List.mem_singleton] at hd; rw [hd]; exact q4
theorem parse_fwd {x : Dsh} {d : Dip} (h : okD x d) {s : ByteArray} (hs : s.data.toList = lineL x d) : parseL x s = d := by
  have hw : splitV s 32 = wordsV x d := by
    apply bytesL_inj
    unfold bytesL
    rw [show (32 : Int) = ((32 : UInt8).toNat : Int) from rfl, splitV_split, hs]
    exact line_words h
  obtain ⟨B, S, T, e1, e2, e3, hS, hT, hB, hn, hwd⟩ := words_of h
  have h0 : (wordsV x d).getD 0 default = x.baths[B].name := by rw [hwd]; split <;> rfl
  have g1 : (wordsV x d).getD 1 default = digV S := by rw [hwd]; split <;> rfl
  have g2 : (wordsV x d).getD 2 default = digV T := by rw [hwd]; split <;> rfl
  have h3 : 3 ≤ (wordsV x d).length := by rw [hwd]; split <;> simp
  have h4 : (((wordsV x d).length : Int) == 4) = d.turned := by
    rw [hwd]; cases d.turned <;> rfl
  unfold parseL
  rw [hw, if_pos h3]
  have key : ∀ n, B < n → n ≤ x.baths.length → lineD x (wordsV x d) n = d := by
    intro n
    induction n with
    | zero => intro h; omega
    | succ n ih =>
      intro hBn hn'
      rw [lineD, h0, getD_at _ _ _ (show n < x.baths.length by omega)]
      by_cases hnB : n = B
      · subst hnB
        rw [if_pos (by simp), g1, g2, numV_dig hS, numV_dig hT, h4, ← e1, ← e2, ← e3]
      · rw [if_neg (fun e => hnB (name_once h.1 _ hB e))]
        exact ih (by omega) (by omega)
  exact key _ hB (Nat.le_refl _)
theorem lines_of {x : Dsh} : ∀ {l : List Dip}, (∀ d ∈ l, okD x d) → splitL 10 (textB x l) = l.map (lineL x) ++ [[]]
  | [], _ => rfl
  | d :: l, h => by
    rw [textB_cons, splitL_app _ (line_clean (h d (by simp))), lines_of fun d' h' => h d' (by simp [h'])]; rfl
theorem cand_fwd {x : Dsh} {l : List Dip} (h : okL x l) {t : ByteArray} (ht : t.data.toList = textB x l) : candR x t = l := by
  have hl : bytesL (splitV t 10) = l.map (lineL x) ++ [[]] := by
    unfold bytesL
    rw [show (10 : Int) = ((10 : UInt8).toNat : Int) from rfl, splitV_split, ht]
    exact lines_of fun d hd => ⟨h.1, h.2.2 d hd⟩
  have hlen : (splitV t 10).length = l.length + 1 := by
    have := congrArg List.length hl
    simpa [bytesL] using this
  have key : ∀ k, k ≤ l.length → planR x (splitV t 10) k = l.take k := by
    intro k
    induction k with
    | zero => intro _; rfl
    | succ k ih =>
      intro hk
      have hkl : k < l.length := by omega
      have hat : ((splitV t 10).getD k default).data.toList = lineL x l[k] := by
        rw [getD_at _ _ _ (by omega)]
        have := congrArg (fun z => z[k]?) hl
        simp only [bytesL, List.getElem?_map, List.getElem?_eq_getElem (show k < (splitV t 10).length by omega), Option.map_some, List.getElem?_append, List.length_map, hkl, if_true, List.getElem?_eq_getElem hkl, Option.some.injEq] at this
        exact this
      rw [planR, ih (by omega), parse_fwd (okL_at h k hkl) hat, List.take_add_one, List.getElem?_eq_getElem hkl]; rfl
  unfold candR
  rw [hlen, Nat.add_sub_cancel, key l.length (Nat.le_refl _), List.take_length]
theorem plan_zero {x : Dsh} {l : List Dip} (h1 : (dchk x).2.2 = 0) : planE x l = 0 ↔ okL x l := by
  constructor
  · intro h
    exact (asked_ok (t := ⟨0, 0, 0⟩) (by unfold askedE; rw [if_neg (by simpa using h1), if_neg (by decide)]; exact h)).2.2
  · intro h
    unfold planE
    rw [if_neg (by have := h.2.1; omega)]
    rcases findI_cases (fun _ d => dipE x d) l with ⟨e, _⟩ | ⟨k, hk, e, hbad, _⟩
    · rw [e]
    · exact absurd (h.2.2 _ (List.getElem_mem hk)) hbad
theorem read_same (x : Dsh) (t : ByteArray) : readP x t = readR x t := by
  unfold readR
  by_cases h1 : (dchk x).2.2 = 0
  · rw [if_neg (by simpa using h1)]
    by_cases h2 : 2000 < t.size
    · rw [if_pos h2]; unfold readP; rw [if_neg (by simpa using h1), if_pos h2]
    · rw [if_neg h2]
      obtain ⟨n, s, l, hrun, hend, hstop⟩ := runP_end x t
      have hat := readP_at h1 h2 hrun hstop
      obtain ⟨q1, q2⟩ := run_back h1 n s l hrun
      have hn := runP_le x t n s l hrun
      have hlen := runP_len x t n s l hrun
      rcases hend with hz | ⟨hz, _⟩
      · have hs0 : s.data.toList = [] := by
          apply List.length_eq_zero_iff.1
          simpa using hz
        rw [hs0, List.append_nil] at q1
        have hok : okL x l := ⟨h1, by omega, q2⟩
        rw [hat, if_pos hz, cand_fwd hok q1, if_pos ⟨(plan_zero h1).2 hok, by rw [ByteArray.toList_eq, ByteArray.toList_eq, text_bytes hok, q1]⟩]
      · rw [hat, if_neg hz, if_neg]
        rintro ⟨h3, h4⟩
        have hok := (plan_zero h1).1 h3
        rw [ByteArray.toList_eq, ByteArray.toList_eq, text_bytes hok] at h4
        have := readP_fwd hok h4.symm h2
        rw [hat, if_neg hz] at this
        simp at this
  · rw [if_pos h1]; unfold readP; rw [if_pos h1]
def s33 : List D → Option D := sp2 (cAgg rDsh) cStr (cTup2 (cList rDip) cInt) fun x t => if namesOk x then some (readR x t) else none
theorem ok33 : ∀ ds d, s33 ds = some d → PureC Tryz.prog 33 ds d := ok_sp2 fun x t r hr => by
  split at hr
  · rename_i hc
    cases hr
    rw [← read_same]
    exact ok33P x t hc
  · cases hr
theorem call33 (xs : Array Value) (w : World) : (callFunc 33 xs).run Tryz.prog w = .ok (.enter 33 xs) w := by kernel_rfl
end Go.Proofs.YtcgacojnfkklaaaGreatDoor
