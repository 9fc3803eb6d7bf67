/-
  Data as the plain machine takes it; functions that are told of by plain functions. For any program. No program here.
-/
import Derived.Test.YtkldmnladkcfeaaGreatDoorZAmD
import GoSem.ClaimJoined
import Derived.ProofKit
namespace Go.Proofs.YtkldmnladkcfeaaGreatDoor
open Go.RowKit
set_option linter.unusedSimpArgs false
set_option linter.unusedVariables false
abbrev DI (n : Int) : D := .v (.int .i64 n)
abbrev DB (b : Bool) : D := .v (.bool b)
abbrev DS (s : ByteArray) : D := .v (.string s)
def DImp (a b : D) : Prop := ∀ (m : Nat → Nat → Prop) (w : World) (v : Value), Rel m w a v → Rel m w b v
def LImp : List D → List D → Prop
  | [], bs => bs = []
  | a :: t, bs => ∃ b u, bs = b :: u ∧ DImp a b ∧ LImp t u
theorem DImp.refl (a : D) : DImp a a := fun _ _ _ h => h
theorem LImp.refl : ∀ l : List D, LImp l l
  | [] => rfl
  | a :: t => ⟨a, t, rfl, DImp.refl a, LImp.refl t⟩
theorem LImp.rel {m : Nat → Nat → Prop} {w : World} : ∀ {as bs : List D} {vs : List Value}, LImp as bs → RelL m w as vs → RelL m w bs vs
  | [], bs, vs, h, hr => by simp only [LImp] at h; subst h; exact hr
  | a :: t, bs, vs, h, hr => by
    obtain ⟨b, u, rfl, h1, h2⟩ := h
    simp only [RelL] at hr ⊢
    obtain ⟨v, vt, rfl, r1, r2⟩ := hr
    exact ⟨v, vt, rfl, h1 _ _ _ r1, LImp.rel h2 r2⟩
theorem LImp.cells {m : Nat → Nat → Prop} {w : World} : ∀ {as bs : List D} {b o : Nat}, LImp as bs → RelCells m w as b o → RelCells m w bs b o
  | [], bs, b, o, h, hr => by simp only [LImp] at h; subst h; exact hr
  | a :: t, bs, bb, o, h, hr => by
    obtain ⟨b, u, rfl, h1, h2⟩ := h
    simp only [RelCells] at hr ⊢
    obtain ⟨⟨v, r1, r2, r3, r4⟩, r5⟩ := hr
    exact ⟨⟨v, r1, r2, r3, h1 _ _ _ r4⟩, LImp.cells h2 r5⟩
theorem LImp.length : ∀ {as bs : List D}, LImp as bs → as.length = bs.length
  | [], bs, h => by simp only [LImp] at h; subst h; rfl
  | a :: t, bs, h => by obtain ⟨b, u, rfl, _, h2⟩ := h; simp [LImp.length h2]
theorem LImp.agg {as bs : List D} (h : LImp as bs) : DImp (.agg as) (.agg bs) := fun m w v hr => by
  simp only [Rel] at hr ⊢
  obtain ⟨vs, h1, h2, h3⟩ := hr
  exact ⟨vs, h1, h2, h.rel h3⟩
theorem LImp.tup {as bs : List D} (h : LImp as bs) : DImp (.tup as) (.tup bs) := fun m w v hr => by
  simp only [Rel] at hr ⊢
  obtain ⟨vs, h1, h3⟩ := hr
  exact ⟨vs, h1, h.rel h3⟩
def RImp : List (List D) → List (List D) → Prop
  | [], bs => bs = []
  | a :: t, bs => ∃ b u, bs = b :: u ∧ LImp a b ∧ RImp t u
theorem RImp.rows {m : Nat → Nat → Prop} {w : World} {b k : Nat} : ∀ {as bs : List (List D)} {o : Nat}, RImp as bs → RelRows m w as b o k → RelRows m w bs b o k
  | [], bs, o, h, hr => by simp only [RImp] at h; subst h; exact hr
  | a :: t, bs, o, h, hr => by
    obtain ⟨b', u, rfl, h1, h2⟩ := h
    simp only [RelRows] at hr ⊢
    obtain ⟨⟨r1, r2⟩, r3⟩ := hr
    exact ⟨⟨by rw [← h1.length]; exact r1, h1.cells r2⟩, RImp.rows h2 r3⟩
theorem RImp.length : ∀ {as bs : List (List D)}, RImp as bs → as.length = bs.length
  | [], bs, h => by simp only [RImp] at h; subst h; rfl
  | a :: t, bs, h => by obtain ⟨b, u, rfl, _, h2⟩ := h; simp [RImp.length h2]
theorem RImp.sl {k : Nat} {as bs : List (List D)} (h : RImp as bs) : DImp (.sl k as) (.sl k bs) := fun m w v hr => by
  have hl := h.length
  simp only [Rel] at hr ⊢
  rw [← hl]
  obtain ⟨h0, a, c, h1, h2, h3⟩ := hr
  refine ⟨h0, a, c, h1, h2, ?_⟩
  rcases h3 with h3 | ⟨b, o, h4, h5⟩
  · left; subst h3; simp only [RImp] at h; exact h
  · exact .inr ⟨b, o, h4, h.rows h5⟩
theorem nil_sl (k k' : Nat) : DImp (.sl k []) (.sl k' []) := fun m w v hr => by
  simp only [Rel] at hr ⊢
  obtain ⟨h0, a, c, h1, h2, h3⟩ := hr
  exact ⟨h0, a, c, h1, h2, .inl trivial⟩
structure Cod (α : Type) where
  enc : α → D
  dec : D → Option α
  ed : ∀ d x, dec d = some x → DImp d (enc x)
structure Row (α : Type) where
  k : Nat
  enc : α → List D
  dec : List D → Option α
  de : ∀ x, dec (enc x) = some x
  ed : ∀ d x, dec d = some x → LImp d (enc x)
def cInt : Cod Int := ⟨DI, fun d => match d with | .v (.int .i64 n) => some n | _ => none, fun d x h => by
  split at h
  · cases h; exact DImp.refl _
  · cases h⟩
def cK (k : IntKind) : Cod Int := ⟨fun n => .v (.int k n), fun d => match d with | .v (.int k' n) => if k' = k then some n else none | _ => none, fun d x h => by
  split at h
  · split at h
    · rename_i e; subst e; cases h; exact DImp.refl _
    · cases h
  · cases h⟩
def cBool : Cod Bool := ⟨DB, fun d => match d with | .v (.bool n) => some n | _ => none, fun d x h => by
  split at h
  · cases h; exact DImp.refl _
  · cases h⟩
def cStr : Cod ByteArray := ⟨DS, fun d => match d with | .v (.string n) => some n | _ => none, fun d x h => by
  split at h
  · cases h; exact DImp.refl _
  · cases h⟩
def decRows {α : Type} (r : Row α) : List (List D) → Option (List α)
  | [] => some []
  | x :: t => match r.dec x, decRows r t with
    | some y, some ys => some (y :: ys)
    | _, _ => none
theorem decRows_enc {α : Type} (r : Row α) (l : List α) : decRows r (l.map r.enc) = some l := by
  induction l with
  | nil => rfl
  | cons x t ih => simp only [List.map_cons, decRows, r.de, ih]
theorem decRows_ed {α : Type} (r : Row α) : ∀ (rows : List (List D)) (l : List α), decRows r rows = some l → RImp rows (l.map r.enc)
  | [], l, h => by simp only [decRows, Option.some.injEq] at h; subst h; rfl
  | x :: t, l, h => by
    simp only [decRows] at h
    split at h
    · rename_i y ys h1 h2
      cases h
      exact ⟨r.enc y, _, rfl, r.ed _ _ h1, decRows_ed r t ys h2⟩
    · cases h
def decSl {α : Type} (r : Row α) (k : Nat) (rows : List (List D)) : Option (List α) := if k = r.k then decRows r rows else (match rows with | [] => some [] | _ => none)
def cList {α : Type} (r : Row α) : Cod (List α) := ⟨fun l => .sl r.k (l.map r.enc), fun d => match d with | .sl k rows => decSl r k rows | _ => none, fun d x h => by
  split at h
  · rename_i k rows
    unfold decSl at h
    split at h
    · rename_i hk; subst hk
      exact (decRows_ed r _ _ h).sl
    · split at h
      · cases h; exact nil_sl _ _
      · cases h
  · cases h⟩
theorem cList_dec {α : Type} (r : Row α) (l : List α) (k : Nat) (h : k = r.k) : (cList r).dec (.sl k (l.map r.enc)) = some l := by
  simp only [cList, decSl, if_pos h, decRows_enc]
def cAgg {α : Type} (r : Row α) : Cod α := ⟨fun x => .agg (r.enc x), fun d => match d with | .agg cs => r.dec cs | _ => none, fun d x h => by
  split at h
  · exact (r.ed _ _ h).agg
  · cases h⟩
def cTup2 {α β : Type} (A : Cod α) (B : Cod β) : Cod (α × β) := ⟨fun x => .tup [A.enc x.1, B.enc x.2], fun d => match d with | .tup [a, b] => (match A.dec a, B.dec b with | some x, some y => some (x, y) | _, _ => none) | _ => none, fun d x h => by
  split at h
  · split at h
    · rename_i p q h1 h2; cases h; exact LImp.tup ⟨_, _, rfl, A.ed _ _ h1, _, _, rfl, B.ed _ _ h2, rfl⟩
    · cases h
  · cases h⟩
def cTup3 {α β γ : Type} (A : Cod α) (B : Cod β) (C : Cod γ) : Cod (α × β × γ) := ⟨fun x => .tup [A.enc x.1, B.enc x.2.1, C.enc x.2.2], fun d => match d with | .tup [a, b, c] => (match A.dec a, B.dec b, C.dec c with | some x, some y, some z => some (x, y, z) | _, _, _ => none) | _ => none, fun d x h => by
  split at h
  · split at h
    · rename_i p q r h1 h2 h3; cases h; exact LImp.tup ⟨_, _, rfl, A.ed _ _ h1, _, _, rfl, B.ed _ _ h2, _, _, rfl, C.ed _ _ h3, rfl⟩
    · cases h
  · cases h⟩
def rInt : Row Int := ⟨1, fun x => [DI x], fun d => match d with | [.v (.int .i64 n)] => some n | _ => none, fun _ => rfl, fun d x h => by
  split at h
  · cases h; exact LImp.refl _
  · cases h⟩
def rStr : Row ByteArray := ⟨1, fun x => [DS x], fun d => match d with | [.v (.string n)] => some n | _ => none, fun _ => rfl, fun d x h => by
  split at h
  · cases h; exact LImp.refl _
  · cases h⟩
def rK (k : IntKind) : Row Int := ⟨1, fun x => [.v (.int k x)], fun d => match d with | [.v (.int k' n)] => if k' = k then some n else none | _ => none, fun _ => by simp, fun d x h => by
  split at h
  · split at h
    · rename_i e; subst e; cases h; exact LImp.refl _
    · cases h
  · cases h⟩
theorem rInt_k : rInt.k = 1 := rfl
theorem rStr_k : rStr.k = 1 := rfl
theorem rK_k (k : IntKind) : (rK k).k = 1 := rfl
theorem rInt_enc (x : Int) : rInt.enc x = [DI x] := rfl
theorem rStr_enc (x : ByteArray) : rStr.enc x = [DS x] := rfl
theorem rK_enc (k : IntKind) (x : Int) : (rK k).enc x = [.v (.int k x)] := rfl
theorem cInt_enc (x : Int) : cInt.enc x = DI x := rfl
theorem cBool_enc (x : Bool) : cBool.enc x = DB x := rfl
theorem cStr_enc (x : ByteArray) : cStr.enc x = DS x := rfl
theorem cK_enc (k : IntKind) (x : Int) : (cK k).enc x = .v (.int k x) := rfl
theorem cInt_dec (x : Int) : cInt.dec (DI x) = some x := rfl
theorem cBool_dec (x : Bool) : cBool.dec (DB x) = some x := rfl
theorem cStr_dec (x : ByteArray) : cStr.dec (DS x) = some x := rfl
theorem cK_dec (k : IntKind) (x : Int) : (cK k).dec (.v (.int k x)) = some x := by simp [cK]
theorem cList_enc {α : Type} (r : Row α) (l : List α) : (cList r).enc l = .sl r.k (l.map r.enc) := rfl
theorem cAgg_enc {α : Type} (r : Row α) (x : α) : (cAgg r).enc x = .agg (r.enc x) := rfl
theorem cAgg_dec {α : Type} (r : Row α) (l : List D) : (cAgg r).dec (.agg l) = r.dec l := rfl
theorem rInt_decL (l : List Int) : (cList rInt).dec (.sl 1 (l.map rInt.enc)) = some l := cList_dec rInt l 1 rfl
theorem rStr_decL (l : List ByteArray) : (cList rStr).dec (.sl 1 (l.map rStr.enc)) = some l := cList_dec rStr l 1 rfl
theorem rK_decL (k : IntKind) (l : List Int) : (cList (rK k)).dec (.sl 1 (l.map (rK k).enc)) = some l := cList_dec (rK k) l 1 rfl
theorem cList_nil {α : Type} (r : Row α) (k : Nat) : (cList r).dec (.sl k []) = some [] := by
  simp only [cList, decSl]; split <;> rfl
theorem cTup2_enc {α β : Type} (A : Cod α) (B : Cod β) (x : α × β) : (cTup2 A B).enc x = .tup [A.enc x.1, B.enc x.2] := rfl
theorem cTup3_enc {α β γ : Type} (A : Cod α) (B : Cod β) (C : Cod γ) (x : α × β × γ) : (cTup3 A B C).enc x = .tup [A.enc x.1, B.enc x.2.1, C.enc x.2.2] := rfl
theorem cTup2_dec {α β : Type} (A : Cod α) (B : Cod β) (a b : D) : (cTup2 A B).dec (.tup [a, b]) = (match A.dec a, B.dec b with | some x, some y => some (x, y) | _, _ => none) := rfl
theorem cTup3_dec {α β γ : Type} (A : Cod α) (B : Cod β) (C : Cod γ) (a b c : D) : (cTup3 A B C).dec (.tup [a, b, c]) = (match A.dec a, B.dec b, C.dec c with | some x, some y, some z => some (x, y, z) | _, _, _ => none) := rfl
theorem bind_some' {α β : Type} (a : α) (f : α → Option β) : (some a).bind f = f a := rfl
theorem PureC.out {P : Program} {f : Nat} {ds : List D} {d d' : D} (h : PureC P f ds d) (hi : DImp d d') : PureC P f ds d' := fun m w vs hm hG hr => (h m w vs hm hG hr).mono fun e w' ⟨v, m', h1, h2, h3, h4⟩ => ⟨v, m', h1, h2, h3, hi _ _ _ h4⟩
theorem pure_of_dec {P : Program} {c : Cx} {α : Type} (R : Cod α) (r : α) (hc : CxOk P c) {f : Nat} {fn : Func} {cd : Code} (hf : P.funcs[f]? = some fn) (hb : fn.body = some cd) (hN : fn.ntmps = c.N) {ds : List D} (hl : ds.length ≤ c.N) (hd : drawsB c.diff c.md c.pq cd = true) (h : (c.call cd fn.results.toList ds).bind R.dec = some r) : PureC P f ds (R.enc r) := by
  obtain ⟨d, h1, h2⟩ := Option.bind_eq_some_iff.1 h
  exact (pure_of_call hc hf hb hN hl hd h1).out (R.ed _ _ h2)
def sp0 {ρ : Type} (R : Cod ρ) (f : Option ρ) : List D → Option D
  | [] => f.map R.enc
  | _ => none
def sp1 {α ρ : Type} (A : Cod α) (R : Cod ρ) (f : α → Option ρ) : List D → Option D
  | [a] => match A.dec a with | some x => (f x).map R.enc | none => none
  | _ => none
def sp2 {α β ρ : Type} (A : Cod α) (B : Cod β) (R : Cod ρ) (f : α → β → Option ρ) : List D → Option D
  | [a, b] => match A.dec a, B.dec b with | some x, some y => (f x y).map R.enc | _, _ => none
  | _ => none
def sp3 {α β γ ρ : Type} (A : Cod α) (B : Cod β) (C : Cod γ) (R : Cod ρ) (f : α → β → γ → Option ρ) : List D → Option D
  | [a, b, c] => match A.dec a, B.dec b, C.dec c with | some x, some y, some z => (f x y z).map R.enc | _, _, _ => none
  | _ => none
def sp4 {α β γ δ ρ : Type} (A : Cod α) (B : Cod β) (C : Cod γ) (E : Cod δ) (R : Cod ρ) (f : α → β → γ → δ → Option ρ) : List D → Option D
  | [a, b, c, e] => match A.dec a, B.dec b, C.dec c, E.dec e with | some x, some y, some z, some u => (f x y z u).map R.enc | _, _, _, _ => none
  | _ => none
def sp5 {α β γ δ ε ρ : Type} (A : Cod α) (B : Cod β) (C : Cod γ) (E : Cod δ) (G : Cod ε) (R : Cod ρ) (f : α → β → γ → δ → ε → Option ρ) : List D → Option D
  | [a, b, c, e, g] => match A.dec a, B.dec b, C.dec c, E.dec e, G.dec g with | some x, some y, some z, some u, some v => (f x y z u v).map R.enc | _, _, _, _, _ => none
  | _ => none
theorem PureC.imp {P : Program} {f : Nat} {ds ds' : List D} {d : D} (h : PureC P f ds' d) (hi : LImp ds ds') : PureC P f ds d := fun m w vs hm hG hr => h m w vs hm hG (hi.rel hr)
section
variable {P : Program} {f : Nat}
theorem ok_sp0 {ρ : Type} {R : Cod ρ} {F : Option ρ} (h : ∀ r, F = some r → PureC P f [] (R.enc r)) : ∀ ds d, sp0 R F ds = some d → PureC P f ds d := by
  intro ds d hd
  unfold sp0 at hd
  split at hd
  · obtain ⟨r, hr, rfl⟩ := Option.map_eq_some_iff.1 hd
    exact h r hr
  · cases hd
theorem ok_sp1 {α ρ : Type} {A : Cod α} {R : Cod ρ} {F : α → Option ρ} (h : ∀ x r, F x = some r → PureC P f [A.enc x] (R.enc r)) : ∀ ds d, sp1 A R F ds = some d → PureC P f ds d := by
  intro ds d hd
  unfold sp1 at hd
  split at hd
  · split at hd
    · rename_i x hx
      obtain ⟨r, hr, rfl⟩ := Option.map_eq_some_iff.1 hd
      exact (h x r hr).imp ⟨_, _, rfl, A.ed _ _ hx, rfl⟩
    · cases hd
  · cases hd
theorem ok_sp2 {α β ρ : Type} {A : Cod α} {B : Cod β} {R : Cod ρ} {F : α → β → Option ρ} (h : ∀ x y r, F x y = some r → PureC P f [A.enc x, B.enc y] (R.enc r)) : ∀ ds d, sp2 A B R F ds = some d → PureC P f ds d := by
  intro ds d hd
  unfold sp2 at hd
  split at hd
  · split at hd
    · rename_i x y hx hy
      obtain ⟨r, hr, rfl⟩ := Option.map_eq_some_iff.1 hd
      exact (h x y r hr).imp ⟨_, _, rfl, A.ed _ _ hx, _, _, rfl, B.ed _ _ hy, rfl⟩
    · cases hd
  · cases hd
theorem ok_sp3 {α β γ ρ : Type} {A : Cod α} {B : Cod β} {C : Cod γ} {R : Cod ρ} {F : α → β → γ → Option ρ} (h : ∀ x y z r, F x y z = some r → PureC P f [A.enc x, B.enc y, C.enc z] (R.enc r)) : ∀ ds d, sp3 A B C R F ds = some d → PureC P f ds d := by
  intro ds d hd
  unfold sp3 at hd
  split at hd
  · split at hd
    · rename_i x y z hx hy hz
      obtain ⟨r, hr, rfl⟩ := Option.map_eq_some_iff.1 hd
      exact (h x y z r hr).imp ⟨_, _, rfl, A.ed _ _ hx, _, _, rfl, B.ed _ _ hy, _, _, rfl, C.ed _ _ hz, rfl⟩
    · cases hd
  · cases hd
theorem ok_sp4 {α β γ δ ρ : Type} {A : Cod α} {B : Cod β} {C : Cod γ} {E : Cod δ} {R : Cod ρ} {F : α → β → γ → δ → Option ρ} (h : ∀ x y z u r, F x y z u = some r → PureC P f [A.enc x, B.enc y, C.enc z, E.enc u] (R.enc r)) : ∀ ds d, sp4 A B C E R F ds = some d → PureC P f ds d := by
  intro ds d hd
  unfold sp4 at hd
  split at hd
  · split at hd
    · rename_i x y z u hx hy hz hu
      obtain ⟨r, hr, rfl⟩ := Option.map_eq_some_iff.1 hd
      exact (h x y z u r hr).imp ⟨_, _, rfl, A.ed _ _ hx, _, _, rfl, B.ed _ _ hy, _, _, rfl, C.ed _ _ hz, _, _, rfl, E.ed _ _ hu, rfl⟩
    · cases hd
  · cases hd
theorem ok_sp5 {α β γ δ ε ρ : Type} {A : Cod α} {B : Cod β} {C : Cod γ} {E : Cod δ} {G : Cod ε} {R : Cod ρ} {F : α → β → γ → δ → ε → Option ρ} (h : ∀ x y z u v r, F x y z u v = some r → PureC P f [A.enc x, B.enc y, C.enc z, E.enc u, G.enc v] (R.enc r)) : ∀ ds d, sp5 A B C E G R F ds = some d → PureC P f ds d := by
  intro ds d hd
  unfold sp5 at hd
  split at hd
  · split at hd
    · rename_i x y z u v hx hy hz hu hv
      obtain ⟨r, hr, rfl⟩ := Option.map_eq_some_iff.1 hd
      exact (h x y z u v r hr).imp ⟨_, _, rfl, A.ed _ _ hx, _, _, rfl, B.ed _ _ hy, _, _, rfl, C.ed _ _ hz, _, _, rfl, E.ed _ _ hu, _, _, rfl, G.ed _ _ hv, rfl⟩
    · cases hd
  · cases hd
def delOf (l : List (Nat × (List D → Option D))) (f : Nat) (ds : List D) : Option D := match getA l f with | some s => s ds | none => none
theorem del_nil : DelOk P (delOf []) := fun f ds d h => by cases h
theorem del_cons {l : List (Nat × (List D → Option D))} {s : List D → Option D} (hl : DelOk P (delOf l)) (he : ∀ xs w, (callFunc f xs).run P w = .ok (.enter f xs) w) (hs : ∀ ds d, s ds = some d → PureC P f ds d) : DelOk P (delOf ((f, s) :: l)) := by
  intro g ds d h
  unfold delOf at h
  simp only [getA] at h
  by_cases e : g = f
  · subst e; rw [if_pos rfl] at h; exact ⟨he, hs ds d h⟩
  · rw [if_neg e] at h; exact hl g ds d h
def panOf : List (Nat × (List D → Option Value)) → Nat → List D → Option Value
  | [], _, _ => none
  | (f, s) :: t, g, ds => if g = f then s ds else panOf t g ds
theorem pan_nil {P : Program} : PanOk P (panOf []) := fun _ _ _ h => by cases h
theorem pan_cons {P : Program} {f : Nat} {s : List D → Option Value} {t : List (Nat × (List D → Option Value))} (ht : PanOk P (panOf t)) (hc : ∀ xs w, (callFunc f xs).run P w = .ok (.enter f xs) w) (h : ∀ ds v, s ds = some v → PanicC P f ds v) : PanOk P (panOf ((f, s) :: t)) := by
  intro g ds v hg
  simp only [panOf] at hg
  split at hg
  · rename_i e; subst e; exact ⟨hc, h ds v hg⟩
  · exact ht g ds v hg
theorem pan_none {P : Program} : PanOk P (fun _ _ => none) := fun _ _ _ h => by cases h
end
def Cx.loop (c : Cx) (a : Code) (σ : St) : Option (AEx × St) := iter (c.code a) c.F σ
def Cx.seqK (c : Cx) (b : Code) : Option (AEx × St) → Option (AEx × St)
  | some (.normal, σ') => c.code b σ'
  | r => r
def blkK (id : Nat) : Option (AEx × St) → Option (AEx × St)
  | some (.exit j, σ') => if j = id then some (.normal, σ') else some (.exit j, σ')
  | r => r
def regK : Option St → Option (AEx × St)
  | some σ' => some (.normal, σ')
  | none => none
def Cx.closeK (c : Cx) (id : Nat) : Option St → Option St
  | some σ' => some (c.close id σ')
  | none => none
def Cx.closeD (c : Cx) (id : Nat) (ops : List Oper) : Option St → Option St
  | some σ' => if diffB ops σ' (c.diff id) then some (c.close id σ') else none
  | none => none
def Cx.opsK (c : Cx) (ops : List Oper) (i : Nat) (t : List Oper) : Option St → Option St
  | some σ' => c.ops ops (i + 1) t σ'
  | none => none
def Cx.opsEK (c : Cx) (ops : List Oper) (i : Nat) (t : List Oper) : Option St → Option St
  | some σ' => c.opsE ops (i + 1) t σ'
  | none => none
def Cx.effK (c : Cx) (i : Nat) (o : Oper) (σ : St) : Option Bool → Option St
  | some true => c.eff i o σ
  | _ => none
def Cx.stepEK (c : Cx) (ops : List Oper) (i : Nat) (o : Oper) (σ : St) : Option St → Option St
  | some σ' => some σ'
  | none => c.effK i o σ (aWanted ops σ o)
def Cx.putK (c : Cx) (i : Nat) (d : Option Nat) (σ : St) : Option Res → Option St
  | some r => σ.put c.N i d r
  | none => none
def Cx.stepK (c : Cx) (i : Nat) (o : Oper) (σ : St) : Option Bool → Option St
  | some true => c.putK i o.dst σ (aop c.Γ c.eqs c.Δ o.op σ.ev σ.boxes σ.toks)
  | some false => σ.put c.N i o.dst .skip
  | none => none
def Cx.condK (c : Cx) (a b : Code) (σ : St) : X → Option (AEx × St)
  | .d (.v (.bool t)) => (match t with | true => c.code a σ | false => c.code b σ)
  | _ => none
def Cx.callK (c : Cx) (rs : List ResultVar) : Option (AEx × St) → Option D
  | some (.exit _, _) => none
  | some (.pan _, _) => none
  | some (_, σ) => (match aResS c.Γ σ rs with
    | some r => some (oneOf r)
    | none => none)
  | none => none
def Cx.callEK (c : Cx) (rs : List ResultVar) (cs : List Cont) : Option (AEx × St) → Option (D × List Cont × List Nat)
  | some (.exit _, _) => none
  | some (.pan _, _) => none
  | some (_, σ) => (match aRes c.Γ σ rs, outC σ 0 cs with
    | some r, some ns => some (oneOf r, ns, (ownC σ.toks ns).toList)
    | _, _ => none)
  | none => none
def Cx.regionM (c : Cx) (id : Nat) (ops : List Oper) (σ : St) : Nat → Option St
  | 0 => c.region id ops σ
  | 1 => c.regionL id ops σ
  | 2 => c.regionI id ops σ
  | m + 3 => if 997 ≤ m then c.regionC id (m - 997) ops σ else c.regionS id m ops σ
def Cx.restS (c : Cx) (id m : Nat) (ops rest : List Oper) : Option St → Option St
  | some σ2 => if startB (allocs rest) σ2 then c.closeK id (c.ops (restO (m + 1) ops) (m + 1) rest σ2) else none
  | none => none
def Cx.midK (c : Cx) (id m : Nat) (ops : List Oper) (o : Oper) (rest : List Oper) : Option St → Option St
  | some σ1 => if diffB (ops.take m) σ1 (c.diff id) then c.restS id m ops rest (c.eff m o σ1) else none
  | none => none
def Cx.regionSK (c : Cx) (id m : Nat) (ops : List Oper) (σ : St) : List Oper → Option St
  | o :: rest => if (o.guard.isNone && (allocDst o).isNone) = true then (if startB (allocs (ops.take m)) σ then c.midK id m ops o rest (c.ops (ops.take m) 0 (ops.take m) σ) else none) else none
  | [] => none
def Cx.lastK (c : Cx) (id n : Nat) (pr : List Oper) (o : Oper) : Option St → Option St
  | some σ' => if diffB pr σ' (c.diff id) then c.closeK id (c.eff n o σ') else none
  | none => none
def Cx.regionLK (c : Cx) (id n : Nat) (pr : List Oper) (σ : St) : List Oper → Option St
  | [o] => (match o.guard, allocDst o with
    | none, none => if startB (allocs pr) σ then c.lastK id n pr o (c.ops pr 0 pr σ) else none
    | _, _ => none)
  | _ => none
def Cx.incS (c : Cx) (q : IncI) (σ : St) : Option St :=
  match c.mapAt q.T (σ.ev (.tmp q.m)) σ, (σ.ev (.tmp q.k)).key, c.lookup q.T (σ.ev (.tmp q.m)) (σ.ev (.tmp q.k)) σ with
  | some (b, sh, es, _, _), some kv, some (.int .i64 n) => if q.dl < c.N ∧ q.da < c.N ∧ q.de < c.N ∧ q.dx < c.N then some { tmps := tops q σ.tmps, boxes := σ.boxes, toks := σ.toks, maps := (b, (sh, (kv, .int .i64 (IntKind.i64.wrap (n + 1))) :: es)) :: σ.maps } else none
  | _, _, _ => none
def Cx.incK (c : Cx) (id : Nat) (pr : List Oper) (q : IncI) : Option St → Option St
  | some σ' => if diffB pr σ' (c.diff id) then c.closeK id (c.incS q σ') else none
  | none => none
def Cx.regionIK (c : Cx) (id : Nat) (pr : List Oper) (σ : St) : Option IncI → Option St
  | some q => if startB (allocs pr) σ then c.incK id pr q (c.ops pr 0 pr σ) else none
  | none => none
def roundOf (fa fb : St → Option (AEx × St)) (ps al : List Nat) (t0 : List (Nat × X)) (xs : List Value) (σ : St) : Option (AEx × St) :=
  if xs.length = ps.length then (match fa { σ with tmps := zipT ps xs ++ t0 } with
    | some (.normal, σ1) => (match fb σ1 with
      | some (.pan _, _) => none
      | some (e, σ2) => some (e, restT al t0 σ2)
      | none => none)
    | _ => none) else none
def restK (al : List Nat) (t0 : List (Nat × X)) : Option (AEx × St) → Option (AEx × St)
  | some (.pan _, _) => none
  | some (e, σ2) => some (e, restT al t0 σ2)
  | none => none
def Cx.roundK (c : Cx) (b : Code) (al : List Nat) (t0 : List (Nat × X)) : Option (AEx × St) → Option (AEx × St)
  | some (.normal, σ1) => restK al t0 (c.code b σ1)
  | _ => none
def Cx.rounds (c : Cx) (a b : Code) (ps al : List Nat) (t0 : List (Nat × X)) (l : List (List Value)) (σ : St) : Option (AEx × St) := roundsF (c.code a) (c.code b) ps al t0 l σ
def Cx.rangeK (c : Cx) (ps : List Nat) (a b : Code) (σ : St) : Option (List (List Value)) → Option (AEx × St)
  | some l => if nodupB ps && ps.all (fun p => decide (p < c.N)) then c.rounds a b ps (allocsC a ++ allocsC b) (keepT (allocsC a ++ allocsC b) σ.tmps) l (restT (allocsC a ++ allocsC b) (keepT (allocsC a ++ allocsC b) σ.tmps) σ) else none
  | none => none
section
variable (c : Cx) (σ : St)
theorem code_skip : c.code .skip σ = some (.normal, σ) := rfl
theorem code_label (l : Nat) : c.code (.label l) σ = some (.normal, σ) := rfl
theorem code_regionT (hp : c.pan = false) (id : Nat) (ops : Array Oper) : c.code (.region id ops true) σ = regK (c.regionM id ops.toList σ (c.md id)) := by
  have e : c.regionD id ops.toList σ = c.regionM id ops.toList σ (c.md id) := by
    unfold Cx.regionD
    generalize c.md id = k
    match k with
    | 0 => rfl
    | 1 => rfl
    | 2 => rfl
    | m + 3 => rfl
  simp only [Cx.code, regK, e, hp]; cases c.regionM id ops.toList σ (c.md id) <;> rfl
theorem regionM_0 (id : Nat) (ops : List Oper) : c.regionM id ops σ 0 = c.region id ops σ := rfl
theorem regionM_1 (id : Nat) (ops : List Oper) : c.regionM id ops σ 1 = c.regionLK id (ops.length - 1) (ops.take (ops.length - 1)) σ (ops.drop (ops.length - 1)) := by
  show c.regionL id ops σ = _
  unfold Cx.regionL Cx.regionLK
  simp only
  generalize ops.drop (ops.length - 1) = l
  cases l with
  | nil => simp only; split <;> (try rfl); split <;> (try rfl); split <;> rfl
  | cons o t =>
    cases t with
    | cons o2 t2 => simp only; split <;> (try rfl); split <;> (try rfl); split <;> rfl
    | nil =>
      simp only
      cases o.guard <;> cases allocDst o <;> simp only <;> split <;> (try rfl) <;> (cases c.ops (ops.take (ops.length - 1)) 0 (ops.take (ops.length - 1)) σ <;> simp only [Cx.lastK] <;> (try rfl)) <;> split <;> (try rfl) <;> (rename_i σ' _; cases c.eff (ops.length - 1) o σ' <;> rfl)
theorem regionM_2 (id : Nat) (ops : List Oper) : c.regionM id ops σ 2 = c.regionIK id (ops.take (ops.length - 5)) σ (incOf (ops.drop (ops.length - 5))) := by
  show c.regionI id ops σ = _
  unfold Cx.regionI Cx.regionIK
  simp only
  cases incOf (ops.drop (ops.length - 5)) with
  | none => simp only; split <;> (try rfl); split <;> (try rfl); split <;> rfl
  | some q =>
    simp only
    split <;> (try rfl)
    cases c.ops (ops.take (ops.length - 5)) 0 (ops.take (ops.length - 5)) σ with
    | none => rfl
    | some σ' =>
      simp only [Cx.incK]
      split <;> (try rfl)
      unfold Cx.incS
      rcases c.mapAt q.T (σ'.ev (.tmp q.m)) σ' with _ | ⟨b, sh, es, e0, j⟩
      · rfl
      · rcases (σ'.ev (.tmp q.k)).key with _ | kv
        · rfl
        · rcases c.lookup q.T (σ'.ev (.tmp q.m)) (σ'.ev (.tmp q.k)) σ' with _ | v
          · rfl
          · cases v with
            | int k n =>
              cases k with
              | i64 => simp only; split <;> rfl
              | _ => rfl
            | _ => rfl
def Cx.chainK (c : Cx) (id m : Nat) (ops : List Oper) : Option St → Option St
  | some σ1 => if diffB (ops.take m) σ1 (c.diff id) then c.closeK id (c.opsE ops m (ops.drop m) σ1) else none
  | none => none
def Cx.regionCK (c : Cx) (id m : Nat) (ops : List Oper) (σ : St) : Option St := if startB (allocs (ops.take m)) σ then c.chainK id m ops (c.ops (ops.take m) 0 (ops.take m) σ) else none
theorem chainK_some (id m : Nat) (ops : List Oper) : c.chainK id m ops (some σ) = if diffB (ops.take m) σ (c.diff id) then c.closeK id (c.opsE ops m (ops.drop m) σ) else none := rfl
theorem regionC_eq (id m : Nat) (ops : List Oper) : c.regionC id m ops σ = c.regionCK id m ops σ := by
  unfold Cx.regionC Cx.regionCK
  split <;> rfl
theorem regionS_eq (id m : Nat) (ops : List Oper) : c.regionS id m ops σ = c.regionSK id m ops σ (ops.drop m) := by
  unfold Cx.regionS Cx.regionSK
  simp only
  generalize ops.drop m = l
  cases l with
  | nil => simp only; split <;> (try rfl); split <;> (try rfl); split <;> rfl
  | cons o rest =>
    simp only
    cases hg : o.guard with
    | some p => simp only [Option.isNone_some, Bool.false_and, Bool.false_eq_true, if_false]; split <;> (try rfl); split <;> (try rfl); split <;> rfl
    | none =>
      cases ha : allocDst o with
      | some d => simp only [Option.isNone_some, Bool.and_false, Bool.false_eq_true, if_false]; split <;> (try rfl); split <;> (try rfl); split <;> rfl
      | none =>
        simp only [Option.isNone_none, Bool.and_self, if_true]
        split <;> (try rfl)
theorem regionM_3 (id m : Nat) (ops : List Oper) : c.regionM id ops σ (m + 3) = if 997 ≤ m then c.regionCK id (m - 997) ops σ else c.regionSK id m ops σ (ops.drop m) := by
  show (if 997 ≤ m then c.regionC id (m - 997) ops σ else c.regionS id m ops σ) = _
  rw [regionC_eq, regionS_eq]
theorem regionSK_cons (id m : Nat) (ops : List Oper) (o : Oper) (rest : List Oper) : c.regionSK id m ops σ (o :: rest) = if (o.guard.isNone && (allocDst o).isNone) = true then (if startB (allocs (ops.take m)) σ then c.midK id m ops o rest (c.ops (ops.take m) 0 (ops.take m) σ) else none) else none := rfl
theorem midK_some (id m : Nat) (ops : List Oper) (o : Oper) (rest : List Oper) : c.midK id m ops o rest (some σ) = if diffB (ops.take m) σ (c.diff id) then c.restS id m ops rest (c.eff m o σ) else none := rfl
theorem restS_some (id m : Nat) (ops rest : List Oper) : c.restS id m ops rest (some σ) = if startB (allocs rest) σ then c.closeK id (c.ops (restO (m + 1) ops) (m + 1) rest σ) else none := rfl
theorem regionLK_one (id n : Nat) (pr : List Oper) (o : Oper) : c.regionLK id n pr σ [o] = if (o.guard.isNone && (allocDst o).isNone) = true then (if startB (allocs pr) σ then c.lastK id n pr o (c.ops pr 0 pr σ) else none) else none := by
  simp only [Cx.regionLK]
  cases o.guard <;> cases allocDst o <;> rfl
theorem regionIK_some (id : Nat) (pr : List Oper) (q : IncI) : c.regionIK id pr σ (some q) = if startB (allocs pr) σ then c.incK id pr q (c.ops pr 0 pr σ) else none := rfl
theorem lastK_some (id n : Nat) (pr : List Oper) (o : Oper) : c.lastK id n pr o (some σ) = if diffB pr σ (c.diff id) then c.closeK id (c.eff n o σ) else none := rfl
theorem incK_some (id : Nat) (pr : List Oper) (q : IncI) : c.incK id pr q (some σ) = if diffB pr σ (c.diff id) then c.closeK id (c.incS q σ) else none := rfl
theorem closeK_none (id : Nat) : c.closeK id none = none := rfl
theorem code_range (g : Operand) (ps : Array Tmp) (a b : Code) : c.code (.rangeFunc g ps a b) σ = c.rangeK ps.toList a b σ (c.iterOf (σ.ev g)) := by
  simp only [Cx.code, Cx.rangeK]; cases c.iterOf (σ.ev g) <;> rfl
theorem rangeK_some (ps : List Nat) (a b : Code) (l : List (List Value)) : c.rangeK ps a b σ (some l) = if nodupB ps && ps.all (fun p => decide (p < c.N)) then c.rounds a b ps (allocsC a ++ allocsC b) (keepT (allocsC a ++ allocsC b) σ.tmps) l (restT (allocsC a ++ allocsC b) (keepT (allocsC a ++ allocsC b) σ.tmps) σ) else none := rfl
theorem restK_n (al : List Nat) (t0 : List (Nat × X)) : restK al t0 (some (.normal, σ)) = some (.normal, restT al t0 σ) := rfl
theorem restK_e (al : List Nat) (t0 : List (Nat × X)) (i : Nat) : restK al t0 (some (.exit i, σ)) = some (.exit i, restT al t0 σ) := rfl
theorem restK_r (al : List Nat) (t0 : List (Nat × X)) : restK al t0 (some (.ret, σ)) = some (.ret, restT al t0 σ) := rfl
theorem roundK_n (b : Code) (al : List Nat) (t0 : List (Nat × X)) : c.roundK b al t0 (some (.normal, σ)) = restK al t0 (c.code b σ) := rfl
theorem roundOf_eq (a b : Code) (ps al : List Nat) (t0 : List (Nat × X)) (xs : List Value) : roundOf (c.code a) (c.code b) ps al t0 xs σ = if xs.length = ps.length then c.roundK b al t0 (c.code a { σ with tmps := zipT ps xs ++ t0 }) else none := by
  unfold roundOf
  split
  · cases c.code a { σ with tmps := zipT ps xs ++ t0 } with
    | none => rfl
    | some p =>
      obtain ⟨e, σ1⟩ := p
      cases e with
      | normal => simp only [Cx.roundK]; cases c.code b σ1 <;> rfl
      | _ => rfl
  · rfl
theorem code_regionF (hp : c.pan = false) (id : Nat) (ops : Array Oper) : c.code (.region id ops false) σ = regK (c.regionE id ops.toList σ) := by
  simp only [Cx.code, regK, hp]; cases c.regionE id ops.toList σ <;> rfl
def Cx.runPK (c : Cx) (id : Nat) (ops : List Oper) (i : Nat) (o : Oper) (t : List Oper) (σ : St) : Option St → Option (AEx × St)
  | some σ' => c.runP id ops (i + 1) t σ'
  | none => (match aWanted ops σ o with
      | some true => (match c.panAt o σ with
        | some v => some (.pan v, σ)
        | none => none)
      | _ => none)
def panV (σ : St) : Option Value → Option (AEx × St)
  | some v => some (.pan v, σ)
  | none => none
def Cx.panW (c : Cx) (o : Oper) (σ : St) : Option Bool → Option (AEx × St)
  | some true => panV σ (c.panAt o σ)
  | _ => none
def Cx.regQ (c : Cx) (id : Nat) (ops : List Oper) (σ : St) : Option St → Option (AEx × St)
  | some σ' => some (.normal, σ')
  | none => c.tryQ ops σ (c.pq id)
def Cx.tryK (c : Cx) (ops : List Oper) (σ : St) (t : List (Nat × List Nat)) : Option Value → Option (AEx × St)
  | some v => some (.pan v, { σ with tmps := notIn (dsts ops) σ.tmps })
  | none => c.tryQ ops σ t
def Cx.lastQ (c : Cx) (σ : St) (t0 : List (Nat × X)) : Option Oper → Option (List (Nat × Nat × X)) → Option Value
  | some o, some L => c.panAt o { σ with tmps := qT L t0 }
  | _, _ => none
def Cx.opsQK (c : Cx) (σ : St) (t0 : List (Nat × X)) (p : Nat) (bh : List Nat) (j d : Nat) (t : List Oper) (L : List (Nat × Nat × X)) : Option X → Option (List (Nat × Nat × X))
  | some x => if dstB c.N (some d) then c.opsQ σ t0 p bh (j + 1) t ((j, d, x) :: L) else none
  | none => none
def resK : Option Res → Option X
  | some r => resQ r
  | none => none
theorem code_regionTP (hp : c.pan = true) (id : Nat) (ops : Array Oper) : c.code (.region id ops true) σ = c.regQ id ops.toList σ (c.regionM id ops.toList σ (c.md id)) := by
  have e : c.regionD id ops.toList σ = c.regionM id ops.toList σ (c.md id) := by
    unfold Cx.regionD
    generalize c.md id = k
    match k with
    | 0 => rfl
    | 1 => rfl
    | 2 => rfl
    | m + 3 => rfl
  simp only [Cx.code, Cx.regQ, e, hp, if_true]; cases c.regionM id ops.toList σ (c.md id) <;> rfl
theorem regQ_some (id : Nat) (ops : List Oper) (σ' : St) : c.regQ id ops σ (some σ') = some (.normal, σ') := rfl
theorem regQ_none (id : Nat) (ops : List Oper) : c.regQ id ops σ none = c.tryQ ops σ (c.pq id) := rfl
theorem tryQ_nil (ops : List Oper) : c.tryQ ops σ [] = none := rfl
theorem tryQ_cons (ops : List Oper) (p : Nat) (bh : List Nat) (t : List (Nat × List Nat)) : c.tryQ ops σ ((p, bh) :: t) = c.tryK ops σ t (c.oneQ ops p bh σ) := by
  simp only [Cx.tryQ, Cx.tryK]; cases c.oneQ ops p bh σ <;> rfl
theorem tryK_some (ops : List Oper) (t : List (Nat × List Nat)) (v : Value) : c.tryK ops σ t (some v) = some (.pan v, ⟨notIn (dsts ops) σ.tmps, σ.boxes, σ.toks, σ.maps⟩) := rfl
theorem tryK_none (ops : List Oper) (t : List (Nat × List Nat)) : c.tryK ops σ t none = c.tryQ ops σ t := rfl
theorem oneQ_eq (ops : List Oper) (p : Nat) (bh : List Nat) : c.oneQ ops p bh σ = if startB (allocs ops) σ then c.lastQ σ (notIn (dsts ops) σ.tmps) ops[p]? (c.opsQ σ (notIn (dsts ops) σ.tmps) p bh 0 ops []) else none := by
  unfold Cx.oneQ
  split
  · cases c.opsQ σ (notIn (dsts ops) σ.tmps) p bh 0 ops [] <;> cases ops[p]? <;> rfl
  · rfl
theorem lastQ_some (t0 : List (Nat × X)) (o : Oper) (L : List (Nat × Nat × X)) : c.lastQ σ t0 (some o) (some L) = c.panAt o ⟨qT L t0, σ.boxes, σ.toks, σ.maps⟩ := rfl
theorem lastQ_none (t0 : List (Nat × X)) (o : Oper) : c.lastQ σ t0 (some o) none = none := rfl
theorem opsQ_nil (t0 : List (Nat × X)) (p : Nat) (bh : List Nat) (j : Nat) (L : List (Nat × Nat × X)) : c.opsQ σ t0 p bh j [] L = some L := rfl
theorem opsQ_cons (t0 : List (Nat × X)) (p : Nat) (bh : List Nat) (j d : Nat) (op : Op) (ty : TypeId) (pos : String) (after : Array Edge) (guard : Option (Nat × Bool)) (t : List Oper) (L : List (Nat × Nat × X)) : c.opsQ σ t0 p bh j (⟨some d, op, ty, pos, after, guard⟩ :: t) L = if (j == p || bh.contains j) = true then c.opsQ σ t0 p bh (j + 1) t L else c.opsQK σ t0 p bh j d t L (resK (aop c.Γ c.eqs c.Δ op (St.mk (qT L t0) σ.boxes σ.toks σ.maps).ev σ.boxes σ.toks)) := by
  simp only [Cx.opsQ]
  split
  · rfl
  · cases aop c.Γ c.eqs c.Δ op (St.mk (qT L t0) σ.boxes σ.toks σ.maps).ev σ.boxes σ.toks with
    | none => rfl
    | some r =>
      simp only [resK]
      cases hr : resQ r with
      | none => simp only [Cx.opsQK]; split <;> rfl
      | some x => rfl
theorem opsQ_skip (t0 : List (Nat × X)) (p : Nat) (bh : List Nat) (j : Nat) (op : Op) (ty : TypeId) (pos : String) (after : Array Edge) (guard : Option (Nat × Bool)) (t : List Oper) (L : List (Nat × Nat × X)) : c.opsQ σ t0 p bh j (⟨none, op, ty, pos, after, guard⟩ :: t) L = if (j == p || bh.contains j) = true then c.opsQ σ t0 p bh (j + 1) t L else none := by
  simp only [Cx.opsQ]
  split
  · rfl
  · cases aop c.Γ c.eqs c.Δ op (St.mk (qT L t0) σ.boxes σ.toks σ.maps).ev σ.boxes σ.toks <;> rfl
theorem opsQK_some (t0 : List (Nat × X)) (p : Nat) (bh : List Nat) (j d : Nat) (t : List Oper) (L : List (Nat × Nat × X)) (x : X) : c.opsQK σ t0 p bh j d t L (some x) = if dstB c.N (some d) then c.opsQ σ t0 p bh (j + 1) t ((j, d, x) :: L) else none := rfl
theorem resK_some (r : Res) : resK (some r) = resQ r := rfl
theorem code_regionFP (hp : c.pan = true) (id : Nat) (ops : Array Oper) : c.code (.region id ops false) σ = if startB (allocs ops.toList) σ then c.runP id ops.toList 0 ops.toList σ else none := by
  simp only [Cx.code, hp, if_true]
theorem runP_nil (id : Nat) (ops : List Oper) (i : Nat) : c.runP id ops i [] σ = some (.normal, c.close id σ) := rfl
theorem runP_cons (id : Nat) (ops : List Oper) (i : Nat) (o : Oper) (t : List Oper) : c.runP id ops i (o :: t) σ = c.runPK id ops i o t σ (c.stepEK ops i o σ (c.step ops i o σ)) := by
  have e : c.stepE ops i o σ = c.stepEK ops i o σ (c.step ops i o σ) := by
    simp only [Cx.stepE, Cx.stepEK]
    cases c.step ops i o σ with
    | some σ' => rfl
    | none =>
      simp only
      cases aWanted ops σ o with
      | none => rfl
      | some b => cases b <;> rfl
  rw [← e]
  simp only [Cx.runP, Cx.runPK]
  cases c.stepE ops i o σ <;> rfl
theorem runPK_some (id : Nat) (ops : List Oper) (i : Nat) (o : Oper) (t : List Oper) (σ' : St) : c.runPK id ops i o t σ (some σ') = c.runP id ops (i + 1) t σ' := rfl
theorem runPK_none (id : Nat) (ops : List Oper) (i : Nat) (o : Oper) (t : List Oper) : c.runPK id ops i o t σ none = c.panW o σ (aWanted ops σ o) := by
  simp only [Cx.runPK, Cx.panW, panV]
theorem panW_t (o : Oper) : c.panW o σ (some true) = panV σ (c.panAt o σ) := rfl
theorem panV_some (v : Value) : panV σ (some v) = some (.pan v, σ) := rfl
theorem seqK_p (b : Code) (v : Value) : c.seqK b (some (.pan v, σ)) = some (.pan v, σ) := rfl
theorem blkK_p (id : Nat) (v : Value) : blkK id (some (.pan v, σ)) = some (.pan v, σ) := rfl
theorem closeD_none (id : Nat) (ops : List Oper) : c.closeD id ops none = none := rfl
theorem regK_some : regK (some σ) = some (.normal, σ) := rfl
theorem regK_none : regK none = none := rfl
theorem region_eq (id : Nat) (ops : List Oper) : c.region id ops σ = if startB (allocs ops) σ then c.closeD id ops (c.ops ops 0 ops σ) else none := by
  unfold Cx.region Cx.closeD; cases c.ops ops 0 ops σ <;> rfl
theorem regionE_eq (id : Nat) (ops : List Oper) : c.regionE id ops σ = if startB (allocs ops) σ then c.closeK id (c.opsE ops 0 ops σ) else none := by
  unfold Cx.regionE Cx.closeK; cases c.opsE ops 0 ops σ <;> rfl
theorem opsE_nil (ops : List Oper) (i : Nat) : c.opsE ops i [] σ = some σ := rfl
theorem opsE_cons (ops : List Oper) (i : Nat) (o : Oper) (t : List Oper) : c.opsE ops i (o :: t) σ = c.opsEK ops i t (c.stepEK ops i o σ (c.step ops i o σ)) := by
  simp only [Cx.opsE, Cx.opsEK, Cx.stepE, Cx.stepEK]
  cases c.step ops i o σ with
  | some σ' => rfl
  | none =>
    simp only
    cases aWanted ops σ o with
    | none => rfl
    | some b =>
      cases b with
      | false => rfl
      | true => simp only [Cx.effK]; cases c.eff i o σ <;> rfl
theorem opsEK_some (ops : List Oper) (i : Nat) (t : List Oper) : c.opsEK ops i t (some σ) = c.opsE ops (i + 1) t σ := rfl
theorem opsEK_none (ops : List Oper) (i : Nat) (t : List Oper) : c.opsEK ops i t none = none := rfl
theorem stepEK_some (ops : List Oper) (i : Nat) (o : Oper) (σ' : St) : c.stepEK ops i o σ (some σ') = some σ' := rfl
theorem stepEK_none (ops : List Oper) (i : Nat) (o : Oper) : c.stepEK ops i o σ none = c.effK i o σ (aWanted ops σ o) := rfl
theorem effK_t (i : Nat) (o : Oper) : c.effK i o σ (some true) = c.eff i o σ := rfl
theorem putK_none (i : Nat) (d : Option Nat) : c.putK i d σ none = none := rfl
theorem closeD_some (id : Nat) (ops : List Oper) : c.closeD id ops (some σ) = if diffB ops σ (c.diff id) then some (c.close id σ) else none := rfl
theorem closeK_some (id : Nat) : c.closeK id (some σ) = some (c.close id σ) := rfl
theorem ops_nil (ops : List Oper) (i : Nat) : c.ops ops i [] σ = some σ := rfl
theorem ops_cons (ops : List Oper) (i : Nat) (o : Oper) (t : List Oper) : c.ops ops i (o :: t) σ = c.opsK ops i t (c.step ops i o σ) := by
  simp only [Cx.ops, Cx.opsK]; cases c.step ops i o σ <;> rfl
theorem opsK_some (ops : List Oper) (i : Nat) (t : List Oper) : c.opsK ops i t (some σ) = c.ops ops (i + 1) t σ := rfl
theorem opsK_none (ops : List Oper) (i : Nat) (t : List Oper) : c.opsK ops i t none = none := rfl
theorem step_eq (ops : List Oper) (i : Nat) (o : Oper) : c.step ops i o σ = c.stepK i o σ (aWanted ops σ o) := by
  unfold Cx.step Cx.stepK
  cases aWanted ops σ o with
  | none => rfl
  | some b => cases b <;> simp only [Cx.putK] <;> (try rfl) <;> (cases aop c.Γ c.eqs c.Δ o.op σ.ev σ.boxes σ.toks <;> rfl)
theorem stepK_t (i : Nat) (o : Oper) : c.stepK i o σ (some true) = c.putK i o.dst σ (aop c.Γ c.eqs c.Δ o.op σ.ev σ.boxes σ.toks) := rfl
theorem stepK_f (i : Nat) (o : Oper) : c.stepK i o σ (some false) = σ.put c.N i o.dst .skip := rfl
theorem putK_some (i : Nat) (d : Option Nat) (r : Res) : c.putK i d σ (some r) = σ.put c.N i d r := rfl
theorem code_seq (a b : Code) : c.code (.seq a b) σ = c.seqK b (c.code a σ) := by
  simp only [Cx.code, Cx.seqK]; cases c.code a σ with
  | none => rfl
  | some p => obtain ⟨e, σ'⟩ := p; cases e <;> rfl
theorem seqK_n (b : Code) : c.seqK b (some (.normal, σ)) = c.code b σ := rfl
theorem seqK_e (b : Code) (j : Nat) : c.seqK b (some (.exit j, σ)) = some (.exit j, σ) := rfl
theorem seqK_r (b : Code) : c.seqK b (some (.ret, σ)) = some (.ret, σ) := rfl
theorem code_cond (x : Operand) (a b : Code) : c.code (.cond x a b) σ = c.condK a b σ (σ.ev x) := by
  simp only [Cx.code, Cx.condK]; rfl
theorem condK_t (a b : Code) : c.condK a b σ (.d (.v (.bool true))) = c.code a σ := rfl
theorem condK_f (a b : Code) : c.condK a b σ (.d (.v (.bool false))) = c.code b σ := rfl
theorem code_block (id : Nat) (a : Code) : c.code (.block id a) σ = blkK id (c.code a σ) := by
  simp only [Cx.code, blkK]; cases c.code a σ with
  | none => rfl
  | some p => obtain ⟨e, σ'⟩ := p; cases e <;> rfl
theorem blkK_n (id : Nat) : blkK id (some (.normal, σ)) = some (.normal, σ) := rfl
theorem blkK_e (id j : Nat) : blkK id (some (.exit j, σ)) = if j = id then some (.normal, σ) else some (.exit j, σ) := rfl
theorem blkK_r (id : Nat) : blkK id (some (.ret, σ)) = some (.ret, σ) := rfl
theorem code_loop (a : Code) : c.code (.loop a) σ = c.loop a σ := rfl
theorem code_exit (id : Nat) : c.code (.exit id) σ = some (.exit id, σ) := rfl
theorem code_scope (a : Code) : c.code (.scope a) σ = c.code a σ := rfl
theorem code_ret : c.code .ret σ = some (.ret, σ) := rfl
theorem call_eq (cd : Code) (rs : List ResultVar) (ds : List D) : c.call cd rs ds = c.callK rs (c.code cd ⟨argT 0 ds, [], [], []⟩) := by
  unfold Cx.call Cx.callK
  cases c.code cd ⟨argT 0 ds, [], [], []⟩ with
  | none => rfl
  | some p => obtain ⟨e, σ'⟩ := p; cases e <;> rfl
theorem callK_n (rs : List ResultVar) : c.callK rs (some (.normal, σ)) = (match aResS c.Γ σ rs with | some r => some (oneOf r) | none => none) := rfl
theorem callK_r (rs : List ResultVar) : c.callK rs (some (.ret, σ)) = (match aResS c.Γ σ rs with | some r => some (oneOf r) | none => none) := rfl
theorem callE_eq (cd : Code) (rs : List ResultVar) (xs : List X) (cs : List Cont) (tl : List Nat) : c.callE cd rs xs cs tl = c.callEK rs cs (c.code cd ⟨argX 0 xs, boxesC 0 cs, tl, mapsC 0 cs⟩) := by
  unfold Cx.callE Cx.callEK
  cases c.code cd ⟨argX 0 xs, boxesC 0 cs, tl, mapsC 0 cs⟩ with
  | none => rfl
  | some p => obtain ⟨e, σ'⟩ := p; cases e <;> rfl
theorem callEK_n (rs : List ResultVar) (cs : List Cont) : c.callEK rs cs (some (.normal, σ)) = (match aRes c.Γ σ rs, outC σ 0 cs with | some r, some ns => some (oneOf r, ns, (ownC σ.toks ns).toList) | _, _ => none) := rfl
theorem callEK_r (rs : List ResultVar) (cs : List Cont) : c.callEK rs cs (some (.ret, σ)) = (match aRes c.Γ σ rs, outC σ 0 cs with | some r, some ns => some (oneOf r, ns, (ownC σ.toks ns).toList) | _, _ => none) := rfl
end
theorem iter_run {f : St → Option (AEx × St)} (S : Nat → St) (e : AEx) (σ' : St) (he : e ≠ .normal) : ∀ (n k F : Nat), (∀ j, k ≤ j → j < k + n → f (S j) = some (.normal, S (j + 1))) → f (S (k + n)) = some (e, σ') → n < F → iter f F (S k) = some (e, σ')
  | 0, k, F, _, h, hF => by
    obtain ⟨F', rfl⟩ : ∃ F', F = F' + 1 := ⟨F - 1, by omega⟩
    simp only [iter]
    rw [Nat.add_zero] at h
    rw [h]
    cases e with
    | normal => exact absurd rfl he
    | _ => rfl
  | n + 1, k, F, hs, h, hF => by
    obtain ⟨F', rfl⟩ : ∃ F', F = F' + 1 := ⟨F - 1, by omega⟩
    simp only [iter]
    rw [hs k (Nat.le_refl _) (by omega)]
    exact iter_run S e σ' he n (k + 1) F' (fun j h1 h2 => hs j (by omega) (by omega)) (by rw [show k + 1 + n = k + (n + 1) by omega]; exact h) (by omega)
theorem loop_run {c : Cx} {a : Code} (S : Nat → St) (e : AEx) (σ' : St) (n : Nat) (he : e ≠ .normal) (hs : ∀ j, j < n → c.code a (S j) = some (.normal, S (j + 1))) (h : c.code a (S n) = some (e, σ')) (hF : n < c.F) : c.loop a (S 0) = some (e, σ') :=
  iter_run S e σ' he n 0 c.F (fun j _ h2 => hs j (by omega)) (by rw [Nat.zero_add]; exact h) hF
def stopK : Option (AEx × St) → Option (AEx × St)
  | some (.normal, _) => none
  | r => r
theorem stopK_n (σ : St) : stopK (some (.normal, σ)) = none := rfl
theorem stopK_e (j : Nat) (σ : St) : stopK (some (.exit j, σ)) = some (.exit j, σ) := rfl
theorem stopK_r (σ : St) : stopK (some (.ret, σ)) = some (.ret, σ) := rfl
theorem stopK_p (v : Value) (σ : St) : stopK (some (.pan v, σ)) = some (.pan v, σ) := rfl
theorem loop_then {c : Cx} {a : Code} {σ0 : St} {β : Type} {r : β} {R : Option (AEx × St)} (hL : c.loop a σ0 = R) (S : Nat → St) (n : Nat) (h0 : σ0 = S 0) (K : Option (AEx × St) → Option β) (hs : ∀ j, j < n → c.code a (S j) = some (.normal, S (j + 1))) (hF : n < c.F) (hK : K none = none) (h : K (stopK (c.code a (S n))) = some r) : K R = some r := by
  subst h0
  cases hc : c.code a (S n) with
  | none => rw [hc] at h; change K none = some r at h; rw [hK] at h; cases h
  | some p =>
    obtain ⟨e, σ'⟩ := p
    rw [hc] at h
    cases e with
    | normal => change K none = some r at h; rw [hK] at h; cases h
    | _ => rw [← hL, loop_run S _ σ' n (by simp) hs hc hF]; exact h
theorem rounds_all {fa fb : St → Option (AEx × St)} {ps al : List Nat} {t0 : List (Nat × X)} : ∀ (l : List (List Value)) (S : Nat → St) (k : Nat), (∀ j x, l[j]? = some x → roundOf fa fb ps al t0 x (S (k + j)) = some (.normal, S (k + j + 1))) → roundsF fa fb ps al t0 l (S k) = some (.normal, S (k + l.length))
  | [], S, k, _ => rfl
  | x :: t, S, k, h => by
    have h0 := h 0 x rfl
    unfold roundOf at h0
    simp only [roundsF]
    split at h0
    case isFalse => cases h0
    rename_i hl
    rw [if_pos hl]
    split at h0
    case h_2 => cases h0
    rename_i σ1 h1
    split at h0
    case h_1 => cases h0
    case h_3 => cases h0
    rename_i e σ2 hnp h2
    simp only [Nat.add_zero] at h1 h0
    simp only [Option.some.injEq, Prod.mk.injEq] at h0
    obtain ⟨rfl, h3⟩ := h0
    rw [h1]
    simp only [h2]
    rw [h3, rounds_all t S (k + 1) fun j x hj => by have := h (j + 1) x (by simpa using hj); rw [show k + 1 + j = k + (j + 1) by omega]; exact this]
    simp only [List.length_cons]
    rw [show k + 1 + t.length = k + (t.length + 1) by omega]
theorem first_not (p : Nat → Bool) (n : Nat) : (∀ k, k < n → p k = true) ∨ ∃ k, k < n ∧ p k = false ∧ ∀ j, j < k → p j = true := by
  induction n with
  | zero => left; intro k h; omega
  | succ n ih =>
    rcases ih with h | ⟨k, h1, h2, h3⟩
    · cases hp : p n with
      | true => left; intro k hk; by_cases e : k = n; · subst e; exact hp
                · exact h k (by omega)
      | false => exact .inr ⟨n, by omega, hp, h⟩
    · exact .inr ⟨k, by omega, h2, h3⟩
theorem wrap_one : IntKind.i64.wrap 1 = 1 := by decide
theorem wrap_zero : IntKind.i64.wrap 0 = 0 := by decide
structure CodL (α : Type) where
  enc : α → List D
  dec : List D → Option α
  ed : ∀ d x, dec d = some x → LImp d (enc x)
def nilL : CodL Unit := ⟨fun _ => [], fun d => match d with | [] => some () | _ => none, fun d x h => by
  split at h
  · exact LImp.refl _
  · cases h⟩
def consL {α β : Type} (A : Cod α) (L : CodL β) : CodL (α × β) := ⟨fun x => A.enc x.1 :: L.enc x.2, fun d => match d with | d :: ds => (match A.dec d, L.dec ds with | some x, some y => some (x, y) | _, _ => none) | _ => none, fun d x h => by
  split at h
  · split at h
    · rename_i p q h1 h2; cases h; exact ⟨_, _, rfl, A.ed _ _ h1, L.ed _ _ h2⟩
    · cases h
  · cases h⟩
def cTupL {α : Type} (L : CodL α) : Cod α := ⟨fun x => .tup (L.enc x), fun d => match d with | .tup ds => L.dec ds | _ => none, fun d x h => by
  split at h
  · exact LImp.tup (L.ed _ _ h)
  · cases h⟩
def decAll {α : Type} (A : Cod α) : List D → Option (List α)
  | [] => some []
  | d :: t => match A.dec d, decAll A t with
    | some x, some y => some (x :: y)
    | _, _ => none
theorem decAll_ed {α : Type} (A : Cod α) : ∀ (ds : List D) (l : List α), decAll A ds = some l → LImp ds (l.map A.enc)
  | [], l, h => by simp only [decAll, Option.some.injEq] at h; subst h; rfl
  | d :: t, l, h => by
    simp only [decAll] at h
    split at h
    · rename_i x y h1 h2
      cases h
      exact ⟨_, _, rfl, A.ed _ _ h1, decAll_ed A t y h2⟩
    · cases h
def cCells {α : Type} (A : Cod α) : Cod (List α) := ⟨fun l => .agg (l.map A.enc), fun d => match d with | .agg cs => decAll A cs | _ => none, fun d x h => by
  split at h
  · exact (decAll_ed A _ _ h).agg
  · cases h⟩
theorem nilL_dec : nilL.dec [] = some () := rfl
theorem nilL_enc (x : Unit) : nilL.enc x = [] := rfl
theorem consL_dec {α β : Type} (A : Cod α) (L : CodL β) (d : D) (ds : List D) : (consL A L).dec (d :: ds) = (match A.dec d, L.dec ds with | some x, some y => some (x, y) | _, _ => none) := rfl
theorem consL_enc {α β : Type} (A : Cod α) (L : CodL β) (x : α) (y : β) : (consL A L).enc (x, y) = A.enc x :: L.enc y := rfl
theorem cTupL_dec {α : Type} (L : CodL α) (ds : List D) : (cTupL L).dec (.tup ds) = L.dec ds := rfl
theorem cTupL_enc {α : Type} (L : CodL α) (x : α) : (cTupL L).enc x = .tup (L.enc x) := rfl
theorem cCells_enc {α : Type} (A : Cod α) (l : List α) : (cCells A).enc l = .agg (l.map A.enc) := rfl
theorem decAll_map {α : Type} (A : Cod α) (h : ∀ x, A.dec (A.enc x) = some x) (l : List α) : decAll A (l.map A.enc) = some l := by
  induction l with
  | nil => rfl
  | cons x t ih => simp only [List.map_cons, decAll, h, ih]
theorem cCells_bools (l : List Bool) : (cCells cBool).dec (.agg (l.map DB)) = some l := decAll_map cBool (fun _ => rfl) l
theorem cCells_ints (l : List Int) : (cCells cInt).dec (.agg (l.map DI)) = some l := decAll_map cInt (fun _ => rfl) l
section
variable {P : Program} {f : Nat}
end
abbrev EffSp := List X → List Cont → List Nat → Option (D × List Cont × List Nat)
def effOf (l : List (Nat × EffSp)) (f : Nat) : EffSp := fun xs cs tl => match getA l f with | some s => s xs cs tl | none => none
def EffOk1 (P : Program) (f : Nat) (s : EffSp) : Prop := ∀ xs cs tl d ns tl', s xs cs tl = some (d, ns, tl') → EffC P f xs cs tl d ns tl'
section
variable {P : Program} {f : Nat}
theorem eff_nil : EffOk P (effOf []) := fun f xs cs tl d ns tl' h => by cases h
theorem eff_cons {l : List (Nat × EffSp)} {s : EffSp} (hl : EffOk P (effOf l)) (he : ∀ xs w, (callFunc f xs).run P w = .ok (.enter f xs) w) (hs : EffOk1 P f s) : EffOk P (effOf ((f, s) :: l)) := by
  intro g xs cs tl d ns tl' h
  unfold effOf at h
  simp only [getA] at h
  by_cases e : g = f
  · subst e; rw [if_pos rfl] at h; exact ⟨he, hs xs cs tl d ns tl' h⟩
  · rw [if_neg e] at h; exact hl g xs cs tl d ns tl' h
open Classical in
noncomputable def effBy {α : Type} (enc : α → List X × List Cont × List Nat) (res : α → Option (D × List Cont × List Nat)) : EffSp := fun xs cs tl => if h : ∃ p, enc p = (xs, cs, tl) then res h.choose else none
theorem effBy_at {α : Type} {enc : α → List X × List Cont × List Nat} {res : α → Option (D × List Cont × List Nat)} (hinj : ∀ p q, enc p = enc q → res p = res q) (p : α) {xs : List X} {cs : List Cont} {tl : List Nat} (h : enc p = (xs, cs, tl)) : effBy enc res xs cs tl = res p := by
  have hex : ∃ p, enc p = (xs, cs, tl) := ⟨p, h⟩
  unfold effBy
  rw [dif_pos hex]
  exact hinj _ _ (hex.choose_spec.trans h.symm)
theorem ok_effBy {α : Type} {enc : α → List X × List Cont × List Nat} {res : α → Option (D × List Cont × List Nat)} (h : ∀ p r, res p = some r → EffC P f (enc p).1 (enc p).2.1 (enc p).2.2 r.1 r.2.1 r.2.2) : EffOk1 P f (effBy enc res) := by
  intro xs cs tl d ns tl' hr
  unfold effBy at hr
  split at hr
  · rename_i hex
    have hs := hex.choose_spec
    have := h _ _ hr
    rw [hs] at this
    exact this
  · cases hr
end
def seqOf (l : List (Nat × (List D → Option (List (List Value))))) (f : Nat) (ds : List D) : Option (List (List Value)) := match getA l f with | some s => s ds | none => none
def SeqOk (P : Program) (s : Nat → List D → Option (List (List Value))) : Prop := ∀ gf caps l, s gf caps = some l → (∀ xs w, (callFunc gf xs).run P w = .ok (.enter gf xs) w) ∧ SeqC P gf caps l
theorem seq_nil {P : Program} : SeqOk P (seqOf []) := fun gf caps l h => by cases h
theorem seq_none {P : Program} : SeqOk P (fun _ _ => none) := fun gf caps l h => by cases h
theorem seq_cons {P : Program} {f : Nat} {l : List (Nat × (List D → Option (List (List Value))))} {s : List D → Option (List (List Value))} (hl : SeqOk P (seqOf l)) (he : ∀ xs w, (callFunc f xs).run P w = .ok (.enter f xs) w) (hs : ∀ ds r, s ds = some r → SeqC P f ds r) : SeqOk P (seqOf ((f, s) :: l)) := by
  intro g ds r h
  unfold seqOf at h
  simp only [getA] at h
  by_cases e : g = f
  · subst e; rw [if_pos rfl] at h; exact ⟨he, hs ds r h⟩
  · rw [if_neg e] at h; exact hl g ds r h
end Go.Proofs.YtkldmnladkcfeaaGreatDoor
namespace Go.Proofs.YtkldmnladkcfeaaGreatDoor
open Go.RowKit
set_option linter.unusedSimpArgs false
set_option linter.unusedVariables false
def oldM (w : World) : Nat → Nat → Prop := fun b _ => b < w.heap.size
structure Reads {α : Type} (P : Program) (t : TypeId) (r : Row α) (G : α → Prop) : Prop where
  size : P.cellsOf t = r.k
  read : ∀ {H : Type} (enc : TypeId × Value → H) (w : World) (fuel : Nat) (cs : List Value) (d : DataW H) (ps : List MemPlace), DataW.trod enc P w 0 (fun _ => true) true fuel t cs = some (d, ps) → (∀ n ∈ d.weights P t, n ≤ reachBytes) →
    ∃ x, G x ∧ cs.length = r.k ∧ RelL (oldM w) w (r.enc x) cs ∧ ∀ v ∈ cs, v.oneCell' = true
section
variable {P : Program} {t : TypeId}
theorem reads_k {k : IntKind} (hu : P.underlying t = some (.int k)) (hc : P.cellsOf t = 1) : Reads P t (rK k) (fun n => (Lit.int k n).wf = true) := by
  refine ⟨hc, fun enc w fuel cs d ps h hw => ?_⟩
  cases fuel with
  | zero => simp [DataW.trod] at h
  | succ fuel =>
    simp only [DataW.trod, hu] at h
    split at h <;> simp_all
    rename_i k' n h1
    obtain ⟨⟨rfl, hwf⟩, _⟩ := h
    exact ⟨n, hwf, rfl, ⟨_, _, rfl, by simp [Rel], rfl⟩, rfl⟩
theorem reads_i (hu : P.underlying t = some (.int .i64)) (hc : P.cellsOf t = 1) : Reads P t rInt (fun n => (Lit.int .i64 n).wf = true) := by
  have h := reads_k hu hc
  refine ⟨hc, fun enc w fuel cs d ps h1 hw => ?_⟩
  obtain ⟨x, h1, h2, h3, h4⟩ := h.read enc w fuel cs d ps h1 hw
  exact ⟨x, h1, h2, h3, h4⟩
theorem reads_s (hu : P.underlying t = some .string) (hc : P.cellsOf t = 1) : Reads P t rStr (fun s => s.size ≤ reachBytes) := by
  refine ⟨hc, fun enc w fuel cs d ps h hw => ?_⟩
  cases fuel with
  | zero => simp [DataW.trod] at h
  | succ fuel =>
    simp only [DataW.trod, hu] at h
    split at h <;> simp_all
    rename_i cs0 s
    obtain ⟨hwf, rfl, _⟩ := h
    refine ⟨s, ?_, rfl, ⟨_, _, rfl, by simp [Rel], rfl⟩, rfl⟩
    have := hw s.data.toList.length (by simp [DataW.weights])
    simpa using this
theorem mapM_get {α β : Type} (f : α → Option β) : ∀ (l : List α) (ys : List β), l.mapM f = some ys → ys.length = l.length ∧ ∀ (i : Nat) (x : α), l[i]? = some x → ∃ y, ys[i]? = some y ∧ f x = some y
  | [], ys, h => by simp at h; subst h; simp
  | a :: t, ys, h => by
    rw [List.mapM_cons] at h
    simp only [Option.pure_def, Option.bind_eq_bind, Option.bind_eq_some_iff, Option.some.injEq] at h
    obtain ⟨y, hy, zs, hz, rfl⟩ := h
    obtain ⟨h1, h2⟩ := mapM_get f t zs hz
    refine ⟨by simp [h1], fun i x hx => ?_⟩
    cases i with
    | zero => simp at hx; subst hx; exact ⟨y, rfl, hy⟩
    | succ i => exact h2 i x (by simpa using hx)
theorem cells_get {w : World} {a : Addr} {n : Nat} {cs : List Value} (h : w.cells? 0 a n = some cs) : cs.length = n ∧ ∀ i v, cs[i]? = some v → w.cell? (a.add i) = some v := by
  unfold World.cells? at h
  rw [if_pos (Nat.zero_le _)] at h
  obtain ⟨h1, h2⟩ := mapM_get _ _ _ h
  rw [List.length_range] at h1
  refine ⟨h1, fun i v hv => ?_⟩
  have hi : i < n := by have := (List.getElem?_eq_some_iff.1 hv).1; omega
  obtain ⟨y, hy, he⟩ := h2 i i (by simp [hi])
  rw [hy] at hv; cases hv; exact he
theorem weights_all {H : Type} (e : TypeId) : ∀ (l : List (DataW H)) (d : DataW H), d ∈ l → ∀ n ∈ d.weights P e, n ∈ DataW.weightsAll P e l
  | a :: l, d, hd, n, hn => by
    simp only [DataW.weightsAll, List.mem_append]
    rcases List.mem_cons.1 hd with rfl | hd
    · exact .inl hn
    · exact .inr (weights_all e l d hd n hn)
theorem relCells_of {w : World} {b : Nat} : ∀ (ds : List D) (cs : List Value) (o : Nat), RelL (oldM w) w ds cs → (∀ v ∈ cs, v.oneCell' = true) → (∀ i v, cs[i]? = some v → w.cell? ⟨b, o + i, none⟩ = some v) → (0 < ds.length → b < w.heap.size) → RelCells (oldM w) w ds b o
  | [], cs, o, _, _, _, _ => trivial
  | d :: ds, cs, o, hr, h1, hc, hb => by
    simp only [RelL] at hr
    obtain ⟨v, t, rfl, h2, h3⟩ := hr
    refine ⟨⟨v, hb (by simp), by simpa using hc 0 v rfl, h1 v (by simp), h2⟩, relCells_of ds t (o + 1) h3 (fun v hv => h1 v (by simp [hv])) (fun i v hv => ?_) (fun _ => hb (by simp))⟩
    have := hc (i + 1) v (by simpa using hv)
    rw [show o + 1 + i = o + (i + 1) by omega]; exact this
def slRow {α : Type} (r : Row α) : Row (List α) := ⟨1, fun l => [D.sl r.k (l.map r.enc)], fun d => match d with | [x] => (cList r).dec x | _ => none, fun x => by simp only [cList_dec r x r.k rfl], fun d x h => by
  split at h
  · rename_i y; exact ⟨_, _, rfl, (cList r).ed _ _ h, rfl⟩
  · cases h⟩
theorem Reads.mono {α : Type} {r : Row α} {G G' : α → Prop} (h : Reads P t r G) (hg : ∀ x, G x → G' x) : Reads P t r G' :=
  ⟨h.size, fun enc w fuel cs d ps h1 h2 => let ⟨x, g1, g2, g3, g4⟩ := h.read enc w fuel cs d ps h1 h2; ⟨x, hg x g1, g2, g3, g4⟩⟩
theorem reads_slN {e : TypeId} {α : Type} {r : Row α} {G : α → Prop} (B : Nat) (hB : B ≤ 140737488355328) (hu : P.underlying t = some (.slice e)) (hc : P.cellsOf t = 1) (he : Reads P e r G) (hk : 0 < r.k) (hb : ∀ n, n * P.bytesOf e ≤ reachBytes → n ≤ B) :
    Reads P t (slRow r) (fun l => (∀ x ∈ l, G x) ∧ l.length ≤ B) := by
  refine ⟨hc, fun enc w fuel cs d ps h hw => ?_⟩
  cases fuel with
  | zero => simp [DataW.trod] at h
  | succ fuel =>
    simp only [DataW.trod, hu] at h
    split at h <;> try (simp_all; done)
    · simp only [Option.some.injEq, Prod.mk.injEq] at h
      obtain ⟨rfl, _⟩ := h
      refine ⟨[], by simp, rfl, ⟨_, _, rfl, ?_, rfl⟩, by simp [Value.oneCell']⟩
      simp [Rel]
    · rename_i e' a len cap heq
      simp only [Option.some.injEq, TypeDesc.slice.injEq] at heq
      subst heq
      split at h
      · rename_i hcond
        obtain ⟨_, hlc, hcm⟩ := hcond
        simp only [if_true, Option.bind_eq_some_iff, Option.map_eq_some_iff, Prod.mk.injEq] at h
        obtain ⟨elems, hel, rest, hre, rfl, _⟩ := h
        obtain ⟨l1, l2⟩ := mapM_get _ _ _ hel
        rw [List.length_range] at l1
        have hwt : ∀ n ∈ (DataW.slice (elems.map (·.1)) (rest.map (·.1))).weights P t, n ≤ reachBytes := hw
        simp only [DataW.weights, hu, List.mem_cons, List.mem_append] at hwt
        have hlen : (elems.length + rest.length) * P.bytesOf e ≤ reachBytes := by simpa using hwt _ (.inl rfl)
        have hl44 : len ≤ B := Nat.le_trans (by omega) (hb _ hlen)
        have hat : ∀ i, i < len → ∃ x cs, G x ∧ cs.length = r.k ∧ RelL (oldM w) w (r.enc x) cs ∧ (∀ v ∈ cs, v.oneCell' = true) ∧ ∀ j v, cs[j]? = some v → w.cell? ((a.add (i * r.k)).add j) = some v := by
          intro i hi
          obtain ⟨y, hy, hf⟩ := l2 i i (by simp [hi])
          simp only [Option.bind_eq_some_iff] at hf
          obtain ⟨cs, hcs, ht⟩ := hf
          rw [he.size] at hcs
          obtain ⟨c1, c2⟩ := cells_get hcs
          have hmem : y.1 ∈ elems.map (·.1) := List.mem_map.2 ⟨y, List.mem_of_getElem? hy, rfl⟩
          obtain ⟨x, g1, g2, g3, g4⟩ := he.read enc w fuel cs y.1 y.2 ht (fun n hn => hwt n (.inr (.inl (weights_all e _ _ hmem n hn))))
          exact ⟨x, cs, g1, g2, g3, g4, c2⟩
        obtain ⟨l, hl, hrel⟩ : ∃ l : List α, l.length = len ∧ ∀ i x, l[i]? = some x → ∃ cs, G x ∧ cs.length = r.k ∧ RelL (oldM w) w (r.enc x) cs ∧ (∀ v ∈ cs, v.oneCell' = true) ∧ ∀ j v, cs[j]? = some v → w.cell? ((a.add (i * r.k)).add j) = some v := by
          clear hcm hlc hlen hwt hel hre l1 l2 hl44 hw
          induction len with
          | zero => exact ⟨[], rfl, fun i x h => by simp at h⟩
          | succ n ih =>
            obtain ⟨l, h1, h2⟩ := ih (fun i hi => hat i (by omega))
            obtain ⟨x, cs, hx⟩ := hat n (by omega)
            refine ⟨l ++ [x], by simp [h1], fun i y hy => ?_⟩
            rw [List.getElem?_append] at hy
            split at hy
            · exact h2 i y hy
            · rename_i hlt
              have : i - l.length = 0 := by have := (List.getElem?_eq_some_iff.1 hy).1; simp at this; omega
              rw [this] at hy
              simp at hy; subst hy
              have : i = n := by omega
              subst this
              exact ⟨cs, hx⟩
        refine ⟨l, ⟨fun x hx => ?_, by omega⟩, rfl, ⟨_, _, rfl, ?_, rfl⟩, by simp [Value.oneCell']⟩
        · obtain ⟨i, hi, rfl⟩ := List.getElem_of_mem hx
          obtain ⟨cs, h1, _⟩ := hrel i _ (List.getElem?_eq_getElem hi)
          exact h1
        · simp only [Rel, List.length_map, hl]
          refine ⟨Nat.le_trans hl44 hB, some a, cap, rfl, hlc, ?_⟩
          by_cases h0 : len = 0
          · left; simp; exact List.length_eq_zero_iff.1 (by omega)
          · right
            obtain ⟨b, off, spot⟩ := a
            obtain ⟨x, cs, _, g2, _, _, g5⟩ := hat 0 (by omega)
            have hc0 := g5 0 cs[0] (List.getElem?_eq_getElem (by omega))
            have hspot : spot = none := by simpa [Addr.add] using World.cell?_spot hc0
            subst hspot
            refine ⟨b, off, rfl, RelRows.of fun i rr hr => ?_⟩
            rw [List.getElem?_map] at hr
            obtain ⟨x, hx, rfl⟩ := Option.map_eq_some_iff.1 hr
            obtain ⟨cs, q1, q2, q3, q4, q5⟩ := hrel i x hx
            refine ⟨by rw [← q3.length]; exact q2, relCells_of _ cs _ q3 q4 (fun j v hv => ?_) (fun h => ?_)⟩
            · have := q5 j v hv
              rw [Addr.add_lit, Addr.add_lit] at this; exact this
            · have := q5 0 cs[0] (List.getElem?_eq_getElem (by omega))
              rw [Addr.add_lit, Addr.add_lit] at this
              exact block_lt_of_cell this
      · cases h
theorem reads_sl {e : TypeId} {α : Type} {r : Row α} {G : α → Prop} (hu : P.underlying t = some (.slice e)) (hc : P.cellsOf t = 1) (he : Reads P e r G) (hk : 0 < r.k) (hb : 8 ≤ P.bytesOf e) :
    Reads P t (slRow r) (fun l => (∀ x ∈ l, G x) ∧ l.length ≤ 17592186044416) :=
  reads_slN 17592186044416 (by omega) hu hc he hk fun n hn => by
    have : n * 8 ≤ reachBytes := Nat.le_trans (Nat.mul_le_mul_left _ hb) hn
    unfold reachBytes at this; omega
theorem RelL.app {m : Nat → Nat → Prop} {w : World} : ∀ {as bs : List D} {vs us : List Value}, RelL m w as vs → RelL m w bs us → RelL m w (as ++ bs) (vs ++ us)
  | [], bs, vs, us, h, k => by simp only [RelL] at h; subst h; exact k
  | a :: as, bs, vs, us, h, k => by
    simp only [RelL] at h
    obtain ⟨v, t, rfl, h1, h2⟩ := h
    exact ⟨v, _, rfl, h1, RelL.app h2 k⟩
theorem each_cons {H : Type} {n : Nat} {T : TypeId} {Ts : List TypeId} {d : DataW H} {ds : List (DataW H)} : n ∈ DataW.weightsEach P (T :: Ts) (d :: ds) ↔ n ∈ d.weights P T ∨ n ∈ DataW.weightsEach P Ts ds := by
  simp [DataW.weightsEach]
structure Fields {α : Type} (P : Program) (fs : List Field) (off : Nat) (enc : α → List D) (k : Nat) (G : α → Prop) : Prop where
  read : ∀ {H : Type} (e : TypeId × Value → H) (w : World) (fuel : Nat) (cs : List Value) (xs : List (DataW H × List MemPlace)), cs.length = off + k → fs.mapM (fun f => DataW.trod e P w 0 (fun _ => true) true fuel f.type ((cs.drop f.offset).take (P.cellsOf f.type))) = some xs → (∀ n ∈ DataW.weightsEach P (fs.map (·.type)) (xs.map (·.1)), n ≤ reachBytes) →
    ∃ x, G x ∧ RelL (oldM w) w (enc x) (cs.drop off) ∧ ∀ v ∈ cs.drop off, v.oneCell' = true
theorem fields_nil (off : Nat) : Fields P [] off (fun _ : Unit => []) 0 (fun _ => True) :=
  ⟨fun e w fuel cs xs hl h hw => ⟨(), trivial, by rw [List.drop_of_length_le (by omega)]; rfl, by rw [List.drop_of_length_le (by omega)]; simp⟩⟩
theorem fields_cons {α β : Type} {f : Field} {fs : List Field} {off k : Nat} {r : Row α} {G : α → Prop} {enc : β → List D} {G' : β → Prop} (h0 : Reads P f.type r G) (ho : f.offset = off) (h1 : Fields P fs (off + r.k) enc k G') :
    Fields P (f :: fs) off (fun x : α × β => r.enc x.1 ++ enc x.2) (r.k + k) (fun x => G x.1 ∧ G' x.2) := by
  refine ⟨fun e w fuel cs xs hl h hw => ?_⟩
  rw [List.mapM_cons] at h
  simp only [Option.pure_def, Option.bind_eq_bind, Option.bind_eq_some_iff, Option.some.injEq] at h
  obtain ⟨y, hy, zs, hz, rfl⟩ := h
  simp only [List.map_cons] at hw
  rw [ho, h0.size] at hy
  obtain ⟨x, g1, g2, g3, g4⟩ := h0.read e w fuel _ y.1 y.2 hy (fun n hn => hw n (each_cons.2 (.inl hn)))
  obtain ⟨x', q1, q3, q4⟩ := h1.read e w fuel cs zs (by omega) hz (fun n hn => hw n (each_cons.2 (.inr hn)))
  have hs : cs.drop off = (cs.drop off).take r.k ++ cs.drop (off + r.k) := by
    rw [← List.drop_drop, List.take_append_drop]
  refine ⟨(x, x'), ⟨g1, q1⟩, ?_, ?_⟩
  · rw [hs]; exact g3.app q3
  · rw [hs]; intro v hv
    rcases List.mem_append.1 hv with hv | hv
    · exact g4 v hv
    · exact q4 v hv
theorem reads_st {α β : Type} {fs : Array Field} {enc : α → List D} {k : Nat} {G : α → Prop} (r : Row β) (mk : α → β) (hu : P.underlying t = some (.struct fs)) (hf : Fields P fs.toList 0 enc k G) (hc : P.cellsOf t = k) (hr : r.k = k) (he : ∀ x, r.enc (mk x) = enc x) :
    Reads P t r (fun y => ∃ x, y = mk x ∧ G x) := by
  refine ⟨by rw [hc, hr], fun e w fuel cs d ps h hw => ?_⟩
  cases fuel with
  | zero => simp [DataW.trod] at h
  | succ fuel =>
    have hcl : cs.length = P.cellsOf t ∧ ∃ xs, fs.toList.mapM (fun f => DataW.trod e P w 0 (fun _ => true) true fuel f.type ((cs.drop f.offset).take (P.cellsOf f.type))) = some xs ∧ d = .agg (xs.map (·.1)) := by
      simp only [DataW.trod, hu] at h
      split at h
      · rename_i hl
        simp only [Option.map_eq_some_iff, Prod.mk.injEq] at h
        obtain ⟨xs, hx, rfl, _⟩ := h
        exact ⟨hl, xs, hx, rfl⟩
      · cases h
    obtain ⟨hl, xs, hx, rfl⟩ := hcl
    simp only [DataW.weights, hu] at hw
    obtain ⟨x, g1, g2, g3⟩ := hf.read e w fuel cs xs (by omega) hx hw
    exact ⟨mk x, ⟨x, rfl, g1⟩, by omega, by rw [he]; simpa using g2, by simpa using g3⟩
theorem reads_arr {β : Type} {e : TypeId} {α : Type} {r : Row α} {G : α → Prop} {N : Nat} (r' : Row β) (mk : List α → β) (hu : P.underlying t = some (.array N e)) (h0 : Reads P e r G) (hc : P.cellsOf t = N * r.k) (hr : r'.k = N * r.k) (he : ∀ l : List α, l.length = N → r'.enc (mk l) = l.flatMap r.enc) :
    Reads P t r' (fun y => ∃ l, y = mk l ∧ l.length = N ∧ ∀ x ∈ l, G x) := by
  refine ⟨by rw [hc, hr], fun en w fuel cs d ps h hw => ?_⟩
  cases fuel with
  | zero => simp [DataW.trod] at h
  | succ fuel =>
    have hcl : cs.length = P.cellsOf t ∧ ∃ xs, (List.range N).mapM (fun i => DataW.trod en P w 0 (fun _ => true) true fuel e ((cs.drop (i * P.cellsOf e)).take (P.cellsOf e))) = some xs ∧ d = .agg (xs.map (·.1)) := by
      simp only [DataW.trod, hu] at h
      split at h
      · rename_i hl
        simp only [Option.map_eq_some_iff, Prod.mk.injEq] at h
        obtain ⟨xs, hx, rfl, _⟩ := h
        exact ⟨hl, xs, hx, rfl⟩
      · cases h
    obtain ⟨hl, xs, hx, rfl⟩ := hcl
    simp only [DataW.weights, hu] at hw
    obtain ⟨l1, l2⟩ := mapM_get _ _ _ hx
    rw [List.length_range] at l1
    rw [hc] at hl
    have key : ∀ n, n ≤ N → ∃ l : List α, l.length = n ∧ (∀ x ∈ l, G x) ∧ RelL (oldM w) w (l.flatMap r.enc) (cs.take (n * r.k)) ∧ ∀ v ∈ cs.take (n * r.k), v.oneCell' = true := by
      intro n
      induction n with
      | zero => intro _; exact ⟨[], rfl, by simp, by simp [RelL], by simp⟩
      | succ n ih =>
        intro hn
        obtain ⟨l, h1, h2, h3, h4⟩ := ih (by omega)
        obtain ⟨y, hy, ht⟩ := l2 n n (List.getElem?_range (by omega))
        rw [h0.size] at ht
        have hmem : y.1 ∈ xs.map (·.1) := List.mem_map.2 ⟨y, List.mem_of_getElem? hy, rfl⟩
        obtain ⟨x, g1, g2, g3, g4⟩ := h0.read en w fuel _ y.1 y.2 ht (fun k hk => hw k (weights_all e _ _ hmem k hk))
        have hsp : cs.take ((n + 1) * r.k) = cs.take (n * r.k) ++ (cs.drop (n * r.k)).take r.k := by
          rw [Nat.succ_mul, List.take_add]
        refine ⟨l ++ [x], by simp [h1], ?_, ?_, ?_⟩
        · intro z hz
          rcases List.mem_append.1 hz with hz | hz
          · exact h2 z hz
          · simp at hz; subst hz; exact g1
        · rw [hsp, List.flatMap_append]; simpa using h3.app g3
        · rw [hsp]; intro v hv
          rcases List.mem_append.1 hv with hv | hv
          · exact h4 v hv
          · exact g4 v hv
    obtain ⟨l, h1, h2, h3, h4⟩ := key N (Nat.le_refl _)
    rw [List.take_of_length_le (by omega)] at h3 h4
    exact ⟨mk l, ⟨l, rfl, h1, h2⟩, by omega, by rw [he l h1]; exact h3, h4⟩
theorem arg_agg {α : Type} {r : Row α} {G : α → Prop} (h : Reads P t r G) (hk : r.k ≠ 1) {H : Type} {enc : TypeId × Value → H} {w : World} {v : Value} {d : DataW H} {p : List MemPlace} (ht : DataW.Trod enc P w 0 (fun _ => true) true t v d p) (hw : ∀ n ∈ d.weights P t, n ≤ reachBytes) :
    ∃ x, G x ∧ Rel (oldM w) w ((cAgg r).enc x) v := by
  obtain ⟨fuel, hf⟩ := ht
  obtain ⟨x, h1, h2, h3, h4⟩ := h.read enc w fuel _ d p hf hw
  refine ⟨x, h1, ?_⟩
  rw [cAgg_enc]
  simp only [Rel]
  refine ⟨v.cells.toList, ?_, h4, h3⟩
  cases v <;> simp [Value.cells] at h2 ⊢ <;> omega
theorem arg_one {α : Type} {r : Row α} {G : α → Prop} (h : Reads P t r G) (E : α → D) (he : ∀ x, r.enc x = [E x]) {H : Type} {enc : TypeId × Value → H} {w : World} {v : Value} {d : DataW H} {p : List MemPlace} (hv : v.cells = #[v]) (ht : DataW.Trod enc P w 0 (fun _ => true) true t v d p) (hw : ∀ n ∈ d.weights P t, n ≤ reachBytes) :
    ∃ x, G x ∧ Rel (oldM w) w (E x) v := by
  obtain ⟨fuel, hf⟩ := ht
  rw [hv] at hf
  obtain ⟨x, h1, h2, h3, h4⟩ := h.read enc w fuel _ d p hf hw
  refine ⟨x, h1, ?_⟩
  rw [he] at h3
  simp only [RelL] at h3
  obtain ⟨v', t', e, h5, _⟩ := h3
  cases e; exact h5
theorem law_calls {f : Nat} {ds : List D} (h : PureC P f ds (DB true)) {w : World} {vs : List Value} (hG : GlobIn (oldM w) w) (hr : RelL (oldM w) w ds vs) : Calls P f vs.toArray w fun e w' => e = .returned (.bool true) ∧ Below w.heap.size w w' :=
  (h (oldM w) w vs (fun _ _ h => h) hG hr).mono fun e w' ⟨v, m', h1, h2, _, h3⟩ => by
    simp only [Rel] at h3
    subst h3
    exact ⟨h1, h2⟩
end
end Go.Proofs.YtkldmnladkcfeaaGreatDoor
