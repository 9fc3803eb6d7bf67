/-
  The program's Read and the reference's are the same function. No walk here. Conditions: none.
-/
import Derived.Test.YtkldmnladkcfeaaGreatDoorZRdD
import Derived.Test.YtkldmnladkcfeaaGreatDoorZSpl
namespace Go.Proofs.YtkldmnladkcfeaaGreatDoor
open Go.RowKit Go.Lib
set_option linter.unusedSimpArgs false
set_option linter.unusedVariables false
/-! The reference's split and number. -/
theorem byteAt_at (s : ByteArray) (i : Nat) (h : i < s.size) : ∃ y : UInt8, s.data.toList[i]? = some y ∧ byteAt s i = (y.toNat : Int) := by
  have h2 : i < s.data.toList.length := by simpa using h
  refine ⟨s.data.toList[i], List.getElem?_eq_getElem h2, ?_⟩
  rw [byteAt_list, getD_at _ _ _ h2]
theorem extract_list (s : ByteArray) (a b : Nat) : (s.extract a b).data.toList = (s.data.toList.drop a).take (b - a) := by
  simp [ByteArray.data_extract, List.extract_eq_take_drop]
theorem splitS_succ (s : ByteArray) (b : Int) (i : Nat) : splitS s b (i + 1) = if byteAt s i = b then ((splitS s b i).1 ++ [s.extract (splitS s b i).2 i], i + 1) else splitS s b i := rfl
theorem splitS_split (s : ByteArray) (c : UInt8) : ∀ i, i ≤ s.size → (splitS s (c.toNat : Int) i).1.map (·.data.toList) ++ [(s.extract (splitS s (c.toNat : Int) i).2 i).data.toList] = splitL c (s.data.toList.take i)
  | 0, _ => by simp [splitS, splitL, extract_list]
  | i + 1, h => by
    obtain ⟨y, h1, h2⟩ := byteAt_at s i (by omega)
    have hlt : i < s.data.toList.length := by simpa using (show i < s.size by omega)
    have ht : s.data.toList.take (i + 1) = s.data.toList.take i ++ [y] := by
      rw [List.take_add_one, h1]; rfl
    have ih := splitS_split s c i (by omega)
    have hle := (splitS_le s (c.toNat : Int) i).1
    rw [ht, splitL_snoc, ← ih, splitS_succ, h2]
    by_cases hy : y = c
    · subst hy
      rw [if_pos rfl, if_pos rfl]
      simp [extract_list]
    · have hne : ¬ (y.toNat : Int) = (c.toNat : Int) := fun e => hy (by
        apply UInt8.toNat_inj.1; omega)
      rw [if_neg hne, if_neg hy, snocL_app]
      congr 2
      rw [extract_list, extract_list, show i + 1 - (splitS s (c.toNat : Int) i).2 = i - (splitS s (c.toNat : Int) i).2 + 1 by omega, List.take_add_one]
      congr 1
      rw [List.getElem?_drop, show (splitS s (c.toNat : Int) i).2 + (i - (splitS s (c.toNat : Int) i).2) = i by omega, h1]; rfl
theorem splitV_split (s : ByteArray) (c : UInt8) : (splitV s (c.toNat : Int)).map (·.data.toList) = splitL c s.data.toList := by
  have := splitS_split s c s.size (Nat.le_refl _)
  rw [List.take_of_length_le (by simp)] at this
  rw [← this, splitV, List.map_append]; rfl
theorem numS_dec (s : ByteArray) : ∀ i, i ≤ s.size → (∀ j, j < i → 48 ≤ byteAt s j ∧ byteAt s j ≤ 57) → decFrom 0 (s.data.toList.take i) = some (numS s i).toNat ∧ 0 ≤ numS s i
  | 0, _, _ => by simp [numS, decFrom]
  | i + 1, h, hd => by
    obtain ⟨h1, h2⟩ := numS_dec s i (by omega) fun j hj => hd j (by omega)
    obtain ⟨y, h3, h4⟩ := byteAt_at s i (by omega)
    obtain ⟨h5, h6⟩ := hd i (by omega)
    rw [h4] at h5 h6
    have hv : digitVal y = some (y.toNat - 48) := by unfold digitVal; rw [if_pos (by omega)]
    have := decFrom_take s.data.toList i 0 _ y _ h1 h3 hv
    rw [this]
    simp only [numS, h4, Option.some.injEq]
    omega
theorem numV_dig {n : Nat} (h : n < 1000000) : numV (digV n) = n := by
  have hs := digV_size (n := n) (k := 6) (by omega) (by omega)
  have hne := decDigits_ne n
  have hsz : (digV n).size = (decDigits n).length := by simp [digV, ByteArray.size]
  have hpos : 1 ≤ (digV n).size := by
    rw [hsz]
    cases hd : decDigits n with
    | nil => exact absurd hd hne
    | cons a b => simp
  have hdl : (digV n).data.toList = decDigits n := by simp [digV]
  have hdig : ∀ j, j < (digV n).size → 48 ≤ byteAt (digV n) j ∧ byteAt (digV n) j ≤ 57 := by
    intro j hj
    obtain ⟨y, h1, h2⟩ := byteAt_at (digV n) j hj
    rw [hdl] at h1
    have := digit_byte n y (List.mem_of_getElem? h1)
    rw [h2]; omega
  unfold numV
  rw [if_neg (by rw [show inR (digV n).size 1 6 = true from inR_iff.2 (by omega)]; simp), if_pos]
  · obtain ⟨h1, h2⟩ := numS_dec (digV n) (digV n).size (Nat.le_refl _) hdig
    rw [List.take_of_length_le (by simp), hdl, decFrom_dig] at h1
    simp only [Option.some.injEq] at h1
    omega
  · rw [List.all_eq_true]
    intro j hj
    unfold digB
    exact inR_iff.2 (hdig j (by simpa using hj))
theorem numP_dig {n : Nat} (h : n < 1000000) : numP (digV n) = some (n : Int) := by
  have hdl : (digV n).data.toList = decDigits n := by simp [digV]
  have h3 := nDigits_le 6 n (by omega) (by omega)
  exact numR_ok (by rw [hdl]; exact atoi_dig (by omega))
theorem name_clean {s : ByteArray} (h : refName s = true) {c : UInt8} (hc : c.toNat < 45) : c ∉ s.data.toList := by
  intro hm
  obtain ⟨i, hi, he⟩ := List.getElem_of_mem hm
  have his : i < s.size := by simpa using hi
  obtain ⟨y, h1, h2⟩ := byteAt_at s i his
  rw [List.getElem?_eq_getElem hi, he] at h1
  cases h1
  have := ((nmAt_iff s i).1 (((refName_iff s).1 h).2.2.2 i his)).1
  rw [h2] at this
  omega
theorem dig_clean (n : Nat) {c : UInt8} (hc : c.toNat < 48) : c ∉ decDigits n := fun hm => by
  have := digit_byte n c hm
  omega
theorem mem_join {c : UInt8} : ∀ {l : List (List UInt8)} {sep : List UInt8}, c ∈ join l sep → c ∈ sep ∨ ∃ p ∈ l, c ∈ p
  | [], sep, h => by rw [join_nil] at h; cases h
  | [a], sep, h => by rw [join_one] at h; exact .inr ⟨a, by simp, h⟩
  | a :: b :: t, sep, h => by
    rw [join_two _ _ _ (by simp), List.mem_append, List.mem_append] at h
    rcases h with (h | h) | h
    · exact .inr ⟨a, by simp, h⟩
    · exact .inl h
    · rcases mem_join h with h | ⟨p, h1, h2⟩
      · exact .inl h
      · exact .inr ⟨p, by simp [h1], h2⟩
def bytesL (l : List ByteArray) : List (List UInt8) := l.map (·.data.toList)
theorem bytesL_inj {a b : List ByteArray} (h : bytesL a = bytesL b) : a = b := by
  induction a generalizing b with
  | nil => cases b with
    | nil => rfl
    | cons y t => cases h
  | cons x s ih =>
    cases b with
    | nil => cases h
    | cons y t =>
      simp only [bytesL, List.map_cons, List.cons.injEq] at h
      rw [ba_ext h.1, ih h.2]
theorem digV_bytes (n : Nat) : (digV n).data.toList = decDigits n := by simp [digV]
end Go.Proofs.YtkldmnladkcfeaaGreatDoor
namespace Go.Proofs.YtkldmnladkcfeaaGreatDoor
open Go.RowKit Go.Lib
set_option linter.unusedSimpArgs false
set_option linter.unusedVariables false
def purB : ByteArray := ⟨#[112, 117, 114, 101]⟩
def kLine (x : Tbl) (k : Nat) : List ByteArray := (x.kinds.getD k default).name :: wordsQ x k x.props.length
def linesT (x : Tbl) (k : Nat) : List (List ByteArray) := (tsB :: wordsP x x.props.length) :: [purB, digV x.purity.toNat] :: (List.range k).map (kLine x)
def lineB (ws : List ByteArray) : List UInt8 := (joinV ws spB).data.toList
def flatB (l : List (List UInt8)) : List UInt8 := l.flatMap fun b => b ++ [10]
theorem flatB_app (a b : List (List UInt8)) : flatB (a ++ b) = flatB a ++ flatB b := by simp [flatB]
theorem text_flat (x : Tbl) : ∀ k, k ≤ x.kinds.length → (textK x k).data.toList = flatB ((linesT x k).map lineB)
  | 0, _ => by
    have h1 := textP_join x x.props.length
    have h2 : (textK x 0).data.toList = (textP x x.props.length).data.toList ++ puB.data.toList ++ (digV x.purity.toNat).data.toList ++ nlB.data.toList := by
      simp [textK, ByteArray.data_append]
    rw [h2, ← h1]
    have h3 : (joinV [purB, digV x.purity.toNat] spB).data.toList = [112, 117, 114, 101, 32] ++ (digV x.purity.toNat).data.toList := by
      rw [joinV_cons]
      simp [tailV, joinTail, ByteArray.data_append, purB]
    simp [linesT, lineB, flatB, h3, puB, nlB]
  | k + 1, hk => by
    have ih := text_flat x k (by omega)
    rw [textK_join x (by omega)]
    have h1 : linesT x (k + 1) = linesT x k ++ [kLine x k] := by simp [linesT, List.range_succ]
    rw [h1, List.map_append, flatB_app, ← ih]
    have h2 : kLine x k = x.kinds[k].name :: wordsQ x k x.props.length := by unfold kLine; rw [getD_at _ _ _ (by omega)]
    rw [h2]
    simp [flatB, lineB, ByteArray.data_append, nlB]
theorem flat_join : ∀ {l : List (List UInt8)}, l ≠ [] → flatB l = join l [10] ++ [10]
  | [], h => absurd rfl h
  | [a], _ => by simp [flatB, join_one]
  | a :: b :: t, _ => by
    have ih := flat_join (l := b :: t) (by simp)
    rw [join_two _ _ _ (by simp)]
    have : flatB (a :: b :: t) = a ++ [10] ++ flatB (b :: t) := by simp [flatB]
    rw [this, ih]; simp
def cleanW (ws : List ByteArray) : Prop := ws ≠ [] ∧ ∀ c : UInt8, (c = 10 ∨ c = 32) → ∀ p ∈ bytesL ws, c ∉ p
theorem clean_dig (n : Nat) {c : UInt8} (hc : c = 10 ∨ c = 32) : c ∉ (digV n).data.toList := by
  rw [digV_bytes]; exact dig_clean n (by rcases hc with rfl | rfl <;> decide)
theorem clean_name {s : ByteArray} (h : refName s = true) {c : UInt8} (hc : c = 10 ∨ c = 32) : c ∉ s.data.toList := name_clean h (by rcases hc with rfl | rfl <;> decide)
theorem wordsP_mem {x : Tbl} (f : Fine x) : ∀ k, k ≤ x.props.length → ∀ w ∈ wordsP x k, refName w = true ∨ ∃ n, w = digV n
  | 0, _, w, h => by cases h
  | k + 1, hk, w, h => by
    rw [wordsP] at h
    rcases List.mem_append.1 h with h | h
    · exact wordsP_mem f k (by omega) w h
    · simp only [List.mem_cons, List.not_mem_nil, or_false] at h
      rcases h with rfl | rfl
      · rw [getD_at _ _ _ (by omega)]
        exact .inl (named_ok (prpE_zero (f.pr k (by omega))).1)
      · exact .inr ⟨_, rfl⟩
theorem wordsQ_mem (x : Tbl) (k : Nat) : ∀ p, ∀ w ∈ wordsQ x k p, ∃ n, w = digV n
  | 0, w, h => by cases h
  | p + 1, w, h => by
    rw [wordsQ] at h
    rcases List.mem_append.1 h with h | h
    · exact wordsQ_mem x k p w h
    · simp only [List.mem_cons, List.not_mem_nil, or_false] at h
      rcases h with rfl | rfl <;> exact ⟨_, rfl⟩
theorem lines_clean {x : Tbl} (f : Fine x) : ∀ ws ∈ linesT x x.kinds.length, cleanW ws := fun ws hws => by
  unfold linesT at hws
  simp only [List.mem_cons, List.mem_map, List.mem_range] at hws
  rcases hws with rfl | rfl | ⟨k, hk, rfl⟩
  · refine ⟨by simp, fun c hc p hp => ?_⟩
    simp only [bytesL, List.map_cons, List.mem_cons, List.mem_map] at hp
    rcases hp with rfl | ⟨w, hw, rfl⟩
    · rcases hc with rfl | rfl <;> decide
    · rcases wordsP_mem f _ (Nat.le_refl _) w hw with h | ⟨n, rfl⟩
      · exact clean_name h hc
      · exact clean_dig n hc
  · refine ⟨by simp, fun c hc p hp => ?_⟩
    simp only [bytesL, List.map_cons, List.map_nil, List.mem_cons, List.not_mem_nil, or_false] at hp
    rcases hp with rfl | rfl
    · rcases hc with rfl | rfl <;> decide
    · exact clean_dig _ hc
  · refine ⟨by simp [kLine], fun c hc p hp => ?_⟩
    simp only [kLine, bytesL, List.map_cons, List.mem_cons, List.mem_map] at hp
    rcases hp with rfl | ⟨w, hw, rfl⟩
    · rw [getD_at _ _ _ hk]
      exact clean_name (named_ok (kndE_zero (f.kn k hk)).1) hc
    · obtain ⟨n, rfl⟩ := wordsQ_mem x k _ w hw
      exact clean_dig n hc
theorem line_bytes (ws : List ByteArray) : lineB ws = join (bytesL ws) [32] := by
  simp [lineB, joinV, bytesL, spB]
theorem line_clean {ws : List ByteArray} (h : cleanW ws) : (10 : UInt8) ∉ lineB ws := by
  rw [line_bytes]
  intro hm
  rcases mem_join hm with h1 | ⟨p, h1, h2⟩
  · simp at h1
  · exact h.2 10 (.inl rfl) p h1 h2
theorem splitW_bytes (s : ByteArray) (c : UInt8) : bytesL (splitW s ⟨#[c]⟩) = splitL c s.data.toList := splitB_one c s
theorem bytes_ne {ws : List ByteArray} (h : ws ≠ []) : bytesL ws ≠ [] := by
  unfold bytesL; simpa using h
theorem words_P {ws : List ByteArray} (h : cleanW ws) : splitW (joinV ws spB) spB = ws := by
  apply bytesL_inj
  have h1 : bytesL (splitW (joinV ws spB) spB) = splitL 32 (lineB ws) := splitW_bytes _ 32
  rw [h1, line_bytes]
  exact splitL_join (bytes_ne h.1) (h.2 32 (.inr rfl))
theorem words_R {ws : List ByteArray} (h : cleanW ws) : splitV (joinV ws spB) 32 = ws := by
  apply bytesL_inj
  have h1 : bytesL (splitV (joinV ws spB) 32) = splitL 32 (lineB ws) := splitV_split _ 32
  rw [h1, line_bytes]
  exact splitL_join (bytes_ne h.1) (h.2 32 (.inr rfl))
theorem hasSuffix_snoc (l : List UInt8) : trimSuffix (l ++ [10]) [10] = l := by
  simp [trimSuffix, hasSuffix]
theorem lines_P {x : Tbl} (f : Fine x) : linesL (textV x) = (linesT x x.kinds.length).map fun ws => joinV ws spB := by
  apply bytesL_inj
  have h0 := text_flat x x.kinds.length (Nat.le_refl _)
  have hne : (linesT x x.kinds.length).map lineB ≠ [] := by simp [linesT]
  rw [flat_join hne] at h0
  have h1 : bytesL (linesL (textV x)) = splitL 10 (trimV (textV x) nlB).data.toList := splitW_bytes _ 10
  have h2 : (trimV (textV x) nlB).data.toList = join ((linesT x x.kinds.length).map lineB) [10] := by
    show (Lib.trimSuffix (textV x).data.toList nlB.data.toList).toArray.toList = _
    rw [show (textV x).data.toList = _ from h0]
    exact hasSuffix_snoc _
  rw [h1, h2, splitL_join hne fun p hp => by
    obtain ⟨ws, hws, rfl⟩ := List.mem_map.1 hp
    exact line_clean (lines_clean f ws hws)]
  simp [bytesL, lineB]
theorem lines_R {x : Tbl} (f : Fine x) : splitV (textV x) 10 = ((linesT x x.kinds.length).map fun ws => joinV ws spB) ++ [⟨#[]⟩] := by
  apply bytesL_inj
  have h0 := text_flat x x.kinds.length (Nat.le_refl _)
  have hne : (linesT x x.kinds.length).map lineB ≠ [] := by simp [linesT]
  rw [flat_join hne] at h0
  have h1 : bytesL (splitV (textV x) 10) = splitL 10 (textV x).data.toList := splitV_split _ 10
  rw [h1, show (textV x).data.toList = _ from h0, splitL_snoc, if_pos rfl, splitL_join hne fun p hp => by
    obtain ⟨ws, hws, rfl⟩ := List.mem_map.1 hp
    exact line_clean (lines_clean f ws hws)]
  simp [bytesL, lineB]
end Go.Proofs.YtkldmnladkcfeaaGreatDoor
namespace Go.Proofs.YtkldmnladkcfeaaGreatDoor
open Go.RowKit Go.Lib
set_option linter.unusedSimpArgs false
set_option linter.unusedVariables false
theorem two_get {α : Type} (l : List α) (a b : α) {k : Nat} (h : l.length = 2 * k) : (l ++ [a, b])[2 * k]? = some a ∧ (l ++ [a, b])[2 * k + 1]? = some b := by
  constructor
  · rw [List.getElem?_append_right (by omega), show 2 * k - l.length = 0 by omega]; rfl
  · rw [List.getElem?_append_right (by omega), show 2 * k + 1 - l.length = 1 by omega]; rfl
theorem wordsP_get (x : Tbl) : ∀ k j, j < k → (wordsP x k)[2 * j]? = some (x.props.getD j default).name ∧ (wordsP x k)[2 * j + 1]? = some (digV (errV x j).toNat)
  | 0, j, h => by omega
  | k + 1, j, h => by
    have hl := wordsP_len x k
    rw [wordsP]
    by_cases e : j = k
    · subst e; exact two_get _ _ _ hl
    · obtain ⟨h1, h2⟩ := wordsP_get x k j (by omega)
      exact ⟨by rw [List.getElem?_append_left (by omega)]; exact h1, by rw [List.getElem?_append_left (by omega)]; exact h2⟩
theorem wordsQ_get (x : Tbl) (i : Nat) : ∀ k j, j < k → (wordsQ x i k)[2 * j]? = some (digV (rngV x i j).lo.toNat) ∧ (wordsQ x i k)[2 * j + 1]? = some (digV (rngV x i j).hi.toNat)
  | 0, j, h => by omega
  | k + 1, j, h => by
    have hl := wordsQ_len x i k
    rw [wordsQ]
    by_cases e : j = k
    · subst e; exact two_get _ _ _ hl
    · obtain ⟨h1, h2⟩ := wordsQ_get x i k j (by omega)
      exact ⟨by rw [List.getElem?_append_left (by omega)]; exact h1, by rw [List.getElem?_append_left (by omega)]; exact h2⟩
theorem getD_of {α : Type} {l : List α} {i : Nat} {a d : α} (h : l[i]? = some a) : l.getD i d = a := by rw [List.getD, h]; rfl
theorem cons_getD {α : Type} (a : α) (l : List α) (i : Nat) (d : α) : (a :: l).getD (i + 1) d = l.getD i d := by simp [List.getD]
def lineP (x : Tbl) : List ByteArray := tsB :: wordsP x x.props.length
theorem half_P (x : Tbl) : halfW (lineP x) = x.props.length := by
  unfold halfW lineP
  rw [List.length_cons, wordsP_len]; omega
theorem half_K (x : Tbl) (k : Nat) : halfW (kLine x k) = x.props.length := by
  unfold halfW kLine
  rw [List.length_cons, wordsQ_len]; omega
theorem num_P {n : Int} (h0 : 0 ≤ n) (h1 : n < 1000000) : numP (digV n.toNat) = some n := by
  rw [numP_dig (by omega), Int.toNat_of_nonneg h0]
theorem num_V {n : Int} (h0 : 0 ≤ n) (h1 : n < 1000000) : numV (digV n.toNat) = n := by
  rw [numV_dig (by omega), Int.toNat_of_nonneg h0]
theorem take_next {α : Type} {l : List α} {k : Nat} (h : k < l.length) : l.take (k + 1) = l.take k ++ [l[k]] := by
  rw [List.take_add_one, List.getElem?_eq_getElem h]; rfl
theorem props_P {x : Tbl} (f : Fine x) : ∀ k, k ≤ x.props.length → propsO (lineP x) k = some (x.props.take k) ∧ propsW (lineP x) k = x.props.take k
  | 0, _ => by simp
  | k + 1, hk => by
    obtain ⟨h1, h2⟩ := props_P f k (by omega)
    obtain ⟨g1, g2⟩ := wordsP_get x x.props.length k (by omega)
    have e1 : (lineP x).getD (2 * k + 1) ⟨#[]⟩ = x.props[k].name := by
      unfold lineP; rw [cons_getD, getD_of g1, getD_at _ _ _ (by omega)]
    have e2 : (lineP x).getD (2 * k + 2) ⟨#[]⟩ = digV (errV x k).toNat := by
      unfold lineP; rw [cons_getD, getD_of g2]
    have he := f.errv (show k < x.props.length by omega)
    have e3 : (⟨x.props[k].name, errV x k⟩ : Prp) = x.props[k] := by rw [← errV_at (by omega)]
    constructor
    · rw [propsO, h1, e1, e2, num_P he.1 (by omega)]
      simp only
      rw [e3, take_next (by omega)]
    · rw [propsW, h2, e1, e2, num_V he.1 (by omega), e3, take_next (by omega)]
theorem spans_K {x : Tbl} (f : Fine x) {i : Nat} (hi : i < x.kinds.length) : ∀ k, k ≤ x.props.length → spansO (kLine x i) k = some (x.kinds[i].props.take k) ∧ spansW (kLine x i) k = x.kinds[i].props.take k
  | 0, _ => by simp
  | k + 1, hk => by
    obtain ⟨h1, h2⟩ := spans_K f hi k (by omega)
    obtain ⟨g1, g2⟩ := wordsQ_get x i x.props.length k (by omega)
    have e1 : (kLine x i).getD (2 * k + 1) ⟨#[]⟩ = digV (rngV x i k).lo.toNat := by
      unfold kLine; rw [cons_getD, getD_of g1]
    have e2 : (kLine x i).getD (2 * k + 2) ⟨#[]⟩ = digV (rngV x i k).hi.toNat := by
      unfold kLine; rw [cons_getD, getD_of g2]
    obtain ⟨hp, e3, r1, r2, r3⟩ := f.rng hi (show k < x.props.length by omega)
    constructor
    · rw [spansO, h1, e1, e2, num_P r1 (by omega), num_P (n := (rngV x i k).hi) (by omega) (by omega)]
      simp only
      rw [take_next hp, e3]
    · rw [spansW, h2, e1, e2, num_V r1 (by omega), num_V (n := (rngV x i k).hi) (by omega) (by omega), take_next hp, e3]
def partT (x : Tbl) : Nat → Tbl
  | 0 => noT
  | 1 => ⟨x.props, [], 0⟩
  | k + 2 => ⟨x.props, x.kinds.take k, x.purity⟩
def linesB (x : Tbl) : List ByteArray := (linesT x x.kinds.length).map fun ws => joinV ws spB
theorem linesB_len (x : Tbl) : (linesB x).length = x.kinds.length + 2 := by simp [linesB, linesT]
theorem linesB_at {x : Tbl} {i : Nat} (hi : i < x.kinds.length + 2) : ∃ ws, (linesT x x.kinds.length)[i]? = some ws ∧ (linesB x)[i]? = some (joinV ws spB) := by
  have hl : i < (linesT x x.kinds.length).length := by simp [linesT]; omega
  refine ⟨_, List.getElem?_eq_getElem hl, ?_⟩
  unfold linesB
  rw [List.getElem?_map, List.getElem?_eq_getElem hl]; rfl
theorem line_zero (x : Tbl) (k : Nat) : (linesT x k)[0]? = some (lineP x) := rfl
theorem line_one (x : Tbl) (k : Nat) : (linesT x k)[1]? = some [purB, digV x.purity.toNat] := rfl
theorem line_kind (x : Tbl) {k i : Nat} (h : i < k) : (linesT x k)[i + 2]? = some (kLine x i) := by
  simp [linesT, List.getElem?_map, List.getElem?_range h]
theorem run_part {x : Tbl} (f : Fine x) : ∀ k, k ≤ x.kinds.length + 2 → runP (linesB x) k = some (partT x k)
  | 0, _ => rfl
  | k + 1, hk => by
    have ih := run_part f k (by omega)
    obtain ⟨ws, h1, h2⟩ := linesB_at (x := x) (show k < x.kinds.length + 2 by omega)
    have hw : wordsL (linesB x) k = ws := by
      unfold wordsL
      rw [getD_of h2]
      exact words_P (lines_clean f ws (List.mem_of_getElem? h1))
    rw [runP, ih, hw]
    show stepP k ws (partT x k) = _
    match k, hk, h1 with
    | 0, _, h1 =>
      rw [line_zero] at h1
      cases h1
      unfold stepP
      have ho : ¬ (lineP x).length % 2 = 0 := by
        unfold lineP; rw [List.length_cons, wordsP_len]; omega
      rw [if_neg (by omega), if_neg ho, if_pos rfl, half_P, (props_P f _ (Nat.le_refl _)).1]
      simp [partT, noT]
    | 1, _, h1 =>
      rw [line_one] at h1
      cases h1
      unfold stepP
      have hu1 := f.u1
      have hu2 := f.u2
      rw [if_pos rfl, if_pos (show [purB, digV x.purity.toNat].length = 2 from rfl), show [purB, digV x.purity.toNat].getD 1 ⟨#[]⟩ = digV x.purity.toNat from rfl, num_P (by omega) (by omega)]
      simp [partT]
    | k + 2, hk, h1 =>
      have hkk : k < x.kinds.length := by omega
      rw [line_kind x hkk] at h1
      cases h1
      unfold stepP
      have ho : ¬ (kLine x k).length % 2 = 0 := by
        unfold kLine; rw [List.length_cons, wordsQ_len]; omega
      have hlen := (f.span k hkk).1
      have hs := (spans_K f hkk _ (Nat.le_refl _)).1
      rw [List.take_of_length_le (by omega)] at hs
      rw [if_neg (by omega), if_neg ho, if_neg (by omega), half_K, hs]
      have e : (⟨(kLine x k).getD 0 ⟨#[]⟩, x.kinds[k].props⟩ : Knd) = x.kinds[k] := by
        unfold kLine
        rw [show ((x.kinds.getD k default).name :: wordsQ x k x.props.length).getD 0 ⟨#[]⟩ = (x.kinds.getD k default).name from rfl, getD_at _ _ _ hkk]
      simp only [Option.map_some, partT, e]
      rw [take_next hkk]
theorem parse_P {x : Tbl} (h : okT x) : parseP (textV x) = some x := by
  have f := fine_of h
  have hl : linesL (textV x) = linesB x := lines_P f
  unfold parseP
  rw [hl, linesB_len, run_part f _ (Nat.le_refl _)]
  simp [partT]
theorem parse_part {x : Tbl} (f : Fine x) : ∀ k, k ≤ x.kinds.length + 2 → parseK (linesB x ++ [(⟨#[]⟩ : ByteArray)]) k = partT x k
  | 0, _ => rfl
  | k + 1, hk => by
    have ih := parse_part f k (by omega)
    obtain ⟨ws, h1, h2⟩ := linesB_at (x := x) (show k < x.kinds.length + 2 by omega)
    have hll := linesB_len x
    have h3 : (linesB x ++ [(⟨#[]⟩ : ByteArray)])[k]? = some (joinV ws spB) := by rw [List.getElem?_append_left (by omega)]; exact h2
    have hw : splitV ((linesB x ++ [(⟨#[]⟩ : ByteArray)]).getD k ⟨#[]⟩) 32 = ws := by
      rw [getD_of h3]
      exact words_R (lines_clean f ws (List.mem_of_getElem? h1))
    rw [parseK, ih, hw]
    match k, hk, h1 with
    | 0, _, h1 =>
      rw [line_zero] at h1
      cases h1
      rw [if_pos rfl, if_neg (by omega), if_neg (fun q => by have := q.1; omega), half_P, (props_P f _ (Nat.le_refl _)).2]
      simp [partT, noT]
    | 1, _, h1 =>
      rw [line_one] at h1
      cases h1
      have hu1 := f.u1
      have hu2 := f.u2
      rw [if_neg (by omega), if_neg (by omega), if_pos (show 1 = 1 ∧ [purB, digV x.purity.toNat].length = 2 from ⟨rfl, rfl⟩), show [purB, digV x.purity.toNat].getD 1 ⟨#[]⟩ = digV x.purity.toNat from rfl, num_V (by omega) (by omega)]
      simp [partT]
    | k + 2, hk, h1 =>
      have hkk : k < x.kinds.length := by omega
      rw [line_kind x hkk] at h1
      cases h1
      have hlen := (f.span k hkk).1
      have hs := (spans_K f hkk _ (Nat.le_refl _)).2
      rw [List.take_of_length_le (by omega)] at hs
      rw [if_neg (by omega), if_pos (by omega), if_neg (fun q => by have := q.1; omega), half_K, hs]
      have e : (⟨(kLine x k).getD 0 ⟨#[]⟩, x.kinds[k].props⟩ : Knd) = x.kinds[k] := by
        unfold kLine
        rw [show ((x.kinds.getD k default).name :: wordsQ x k x.props.length).getD 0 ⟨#[]⟩ = (x.kinds.getD k default).name from rfl, getD_at _ _ _ hkk]
      simp only [partT, e]
      rw [take_next hkk]
theorem parse_R {x : Tbl} (h : okT x) : parsedR (textV x) = x := by
  have f := fine_of h
  have hl : splitV (textV x) 10 = linesB x ++ [(⟨#[]⟩ : ByteArray)] := lines_R f
  unfold parsedR
  rw [hl, List.length_append, linesB_len, show x.kinds.length + 2 + [(⟨#[]⟩ : ByteArray)].length - 1 = x.kinds.length + 2 from rfl, parse_part f _ (Nat.le_refl _)]
  simp [partT]
theorem read_eq (s : ByteArray) : readP s = readR s := by
  unfold readP readR
  split
  · rfl
  · by_cases h : ∃ t, okT t ∧ textV t = s
    · obtain ⟨t, ht, rfl⟩ := h
      rw [parse_P ht, parse_R ht]
    · have h1 : ¬ (okT (parsedR s) ∧ (textV (parsedR s)).toList = s.toList) := fun q => h ⟨_, q.1, by
        have := q.2
        rw [ByteArray.toList_eq, ByteArray.toList_eq] at this
        exact ba_ext this⟩
      rw [if_neg h1]
      split
      · rename_i t _
        rw [if_neg]
        intro q
        refine h ⟨t, q.1, ?_⟩
        have := q.2
        rw [ByteArray.toList_eq, ByteArray.toList_eq] at this
        exact ba_ext this
      · rfl
end Go.Proofs.YtkldmnladkcfeaaGreatDoor
