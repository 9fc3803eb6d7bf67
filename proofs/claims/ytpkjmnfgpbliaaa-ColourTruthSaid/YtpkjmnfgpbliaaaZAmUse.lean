/-
  Data as the plain machine takes it; functions that are told of by plain functions. For any program. No program here.
-/
import Derived.Test.YtpkjmnfgpbliaaaZAmB
namespace Go.Proofs.Ytpkjmnfgpbliaaa
open Go.RowKit
set_option linter.unusedSimpArgs false
set_option linter.unusedVariables false

abbrev DI (n : Int) : D := .v (.int .i64 n)
abbrev DB (b : Bool) : D := .v (.bool b)
abbrev DS (s : ByteArray) : D := .v (.string s)
/-- What reads as the one reads as the other one. -/
def DImp (a b : D) : Prop := ∀ (m : Nat → Nat → Prop) (w : World) (v : Value), Rel m w a v → Rel m w b v
def LImp : List D → List D → Prop
  | [], bs => bs = []
  | a :: t, bs => ∃ b u, bs = b :: u ∧ DImp a b ∧ LImp t u
theorem DImp.refl (a : D) : DImp a a := fun _ _ _ h => h
theorem LImp.refl : ∀ l : List D, LImp l l
  | [] => rfl
  | a :: t => ⟨a, t, rfl, DImp.refl a, LImp.refl t⟩
theorem LImp.rel {m : Nat → Nat → Prop} {w : World} : ∀ {as bs : List D} {vs : List Value}, LImp as bs → RelL m w as vs → RelL m w bs vs
  | [], bs, vs, h, hr => by simp only [LImp] at h; subst h; exact hr
  | a :: t, bs, vs, h, hr => by
    obtain ⟨b, u, rfl, h1, h2⟩ := h
    simp only [RelL] at hr ⊢
    obtain ⟨v, vt, rfl, r1, r2⟩ := hr
    exact ⟨v, vt, rfl, h1 _ _ _ r1, LImp.rel h2 r2⟩
theorem LImp.cells {m : Nat → Nat → Prop} {w : World} : ∀ {as bs : List D} {b o : Nat}, LImp as bs → RelCells m w as b o → RelCells m w bs b o
  | [], bs, b, o, h, hr => by simp only [LImp] at h; subst h; exact hr
  | a :: t, bs, bb, o, h, hr => by
    obtain ⟨b, u, rfl, h1, h2⟩ := h
    simp only [RelCells] at hr ⊢
    obtain ⟨⟨v, r1, r2, r3, r4⟩, r5⟩ := hr
    exact ⟨⟨v, r1, r2, r3, h1 _ _ _ r4⟩, LImp.cells h2 r5⟩
theorem LImp.length : ∀ {as bs : List D}, LImp as bs → as.length = bs.length
  | [], bs, h => by simp only [LImp] at h; subst h; rfl
  | a :: t, bs, h => by obtain ⟨b, u, rfl, _, h2⟩ := h; simp [LImp.length h2]
theorem LImp.agg {as bs : List D} (h : LImp as bs) : DImp (.agg as) (.agg bs) := fun m w v hr => by
  simp only [Rel] at hr ⊢
  obtain ⟨vs, h1, h2, h3⟩ := hr
  exact ⟨vs, h1, h2, h.rel h3⟩
theorem LImp.tup {as bs : List D} (h : LImp as bs) : DImp (.tup as) (.tup bs) := fun m w v hr => by
  simp only [Rel] at hr ⊢
  obtain ⟨vs, h1, h3⟩ := hr
  exact ⟨vs, h1, h.rel h3⟩
def RImp : List (List D) → List (List D) → Prop
  | [], bs => bs = []
  | a :: t, bs => ∃ b u, bs = b :: u ∧ LImp a b ∧ RImp t u
theorem RImp.rows {m : Nat → Nat → Prop} {w : World} {b k : Nat} : ∀ {as bs : List (List D)} {o : Nat}, RImp as bs → RelRows m w as b o k → RelRows m w bs b o k
  | [], bs, o, h, hr => by simp only [RImp] at h; subst h; exact hr
  | a :: t, bs, o, h, hr => by
    obtain ⟨b', u, rfl, h1, h2⟩ := h
    simp only [RelRows] at hr ⊢
    obtain ⟨⟨r1, r2⟩, r3⟩ := hr
    exact ⟨⟨by rw [← h1.length]; exact r1, h1.cells r2⟩, RImp.rows h2 r3⟩
theorem RImp.length : ∀ {as bs : List (List D)}, RImp as bs → as.length = bs.length
  | [], bs, h => by simp only [RImp] at h; subst h; rfl
  | a :: t, bs, h => by obtain ⟨b, u, rfl, _, h2⟩ := h; simp [RImp.length h2]
theorem RImp.sl {k : Nat} {as bs : List (List D)} (h : RImp as bs) : DImp (.sl k as) (.sl k bs) := fun m w v hr => by
  have hl := h.length
  simp only [Rel] at hr ⊢
  rw [← hl]
  obtain ⟨h0, a, c, h1, h2, h3⟩ := hr
  refine ⟨h0, a, c, h1, h2, ?_⟩
  rcases h3 with h3 | ⟨b, o, h4, h5⟩
  · left; subst h3; simp only [RImp] at h; exact h
  · exact .inr ⟨b, o, h4, h.rows h5⟩
theorem nil_sl (k k' : Nat) : DImp (.sl k []) (.sl k' []) := fun m w v hr => by
  simp only [Rel] at hr ⊢
  obtain ⟨h0, a, c, h1, h2, h3⟩ := hr
  exact ⟨h0, a, c, h1, h2, .inl trivial⟩

/-- How data of one kind is written down. -/
structure Cod (α : Type) where
  enc : α → D
  dec : D → Option α
  ed : ∀ d x, dec d = some x → DImp d (enc x)
/-- How an element of a slice is written down. -/
structure Row (α : Type) where
  k : Nat
  enc : α → List D
  dec : List D → Option α
  de : ∀ x, dec (enc x) = some x
  ed : ∀ d x, dec d = some x → LImp d (enc x)
def cInt : Cod Int := ⟨DI, fun d => match d with | .v (.int .i64 n) => some n | _ => none, fun d x h => by
  split at h
  · cases h; exact DImp.refl _
  · cases h⟩
def cK (k : IntKind) : Cod Int := ⟨fun n => .v (.int k n), fun d => match d with | .v (.int k' n) => if k' = k then some n else none | _ => none, fun d x h => by
  split at h
  · split at h
    · rename_i e; subst e; cases h; exact DImp.refl _
    · cases h
  · cases h⟩
def cBool : Cod Bool := ⟨DB, fun d => match d with | .v (.bool n) => some n | _ => none, fun d x h => by
  split at h
  · cases h; exact DImp.refl _
  · cases h⟩
def cStr : Cod ByteArray := ⟨DS, fun d => match d with | .v (.string n) => some n | _ => none, fun d x h => by
  split at h
  · cases h; exact DImp.refl _
  · cases h⟩
def decRows {α : Type} (r : Row α) : List (List D) → Option (List α)
  | [] => some []
  | x :: t => match r.dec x, decRows r t with
    | some y, some ys => some (y :: ys)
    | _, _ => none
theorem decRows_enc {α : Type} (r : Row α) (l : List α) : decRows r (l.map r.enc) = some l := by
  induction l with
  | nil => rfl
  | cons x t ih => simp only [List.map_cons, decRows, r.de, ih]
theorem decRows_ed {α : Type} (r : Row α) : ∀ (rows : List (List D)) (l : List α), decRows r rows = some l → RImp rows (l.map r.enc)
  | [], l, h => by simp only [decRows, Option.some.injEq] at h; subst h; rfl
  | x :: t, l, h => by
    simp only [decRows] at h
    split at h
    · rename_i y ys h1 h2
      cases h
      exact ⟨r.enc y, _, rfl, r.ed _ _ h1, decRows_ed r t ys h2⟩
    · cases h
def decSl {α : Type} (r : Row α) (k : Nat) (rows : List (List D)) : Option (List α) := if k = r.k then decRows r rows else (match rows with | [] => some [] | _ => none)
def cList {α : Type} (r : Row α) : Cod (List α) := ⟨fun l => .sl r.k (l.map r.enc), fun d => match d with | .sl k rows => decSl r k rows | _ => none, fun d x h => by
  split at h
  · rename_i k rows
    unfold decSl at h
    split at h
    · rename_i hk; subst hk
      exact (decRows_ed r _ _ h).sl
    · split at h
      · cases h; exact nil_sl _ _
      · cases h
  · cases h⟩
theorem cList_dec {α : Type} (r : Row α) (l : List α) (k : Nat) (h : k = r.k) : (cList r).dec (.sl k (l.map r.enc)) = some l := by
  simp only [cList, decSl, if_pos h, decRows_enc]
def cAgg {α : Type} (r : Row α) : Cod α := ⟨fun x => .agg (r.enc x), fun d => match d with | .agg cs => r.dec cs | _ => none, fun d x h => by
  split at h
  · exact (r.ed _ _ h).agg
  · cases h⟩
def cTup2 {α β : Type} (A : Cod α) (B : Cod β) : Cod (α × β) := ⟨fun x => .tup [A.enc x.1, B.enc x.2], fun d => match d with | .tup [a, b] => (match A.dec a, B.dec b with | some x, some y => some (x, y) | _, _ => none) | _ => none, fun d x h => by
  split at h
  · split at h
    · rename_i p q h1 h2; cases h; exact LImp.tup ⟨_, _, rfl, A.ed _ _ h1, _, _, rfl, B.ed _ _ h2, rfl⟩
    · cases h
  · cases h⟩
def cTup3 {α β γ : Type} (A : Cod α) (B : Cod β) (C : Cod γ) : Cod (α × β × γ) := ⟨fun x => .tup [A.enc x.1, B.enc x.2.1, C.enc x.2.2], fun d => match d with | .tup [a, b, c] => (match A.dec a, B.dec b, C.dec c with | some x, some y, some z => some (x, y, z) | _, _, _ => none) | _ => none, fun d x h => by
  split at h
  · split at h
    · rename_i p q r h1 h2 h3; cases h; exact LImp.tup ⟨_, _, rfl, A.ed _ _ h1, _, _, rfl, B.ed _ _ h2, _, _, rfl, C.ed _ _ h3, rfl⟩
    · cases h
  · cases h⟩
def rInt : Row Int := ⟨1, fun x => [DI x], fun d => match d with | [.v (.int .i64 n)] => some n | _ => none, fun _ => rfl, fun d x h => by
  split at h
  · cases h; exact LImp.refl _
  · cases h⟩
def rStr : Row ByteArray := ⟨1, fun x => [DS x], fun d => match d with | [.v (.string n)] => some n | _ => none, fun _ => rfl, fun d x h => by
  split at h
  · cases h; exact LImp.refl _
  · cases h⟩
def rK (k : IntKind) : Row Int := ⟨1, fun x => [.v (.int k x)], fun d => match d with | [.v (.int k' n)] => if k' = k then some n else none | _ => none, fun _ => by simp, fun d x h => by
  split at h
  · split at h
    · rename_i e; subst e; cases h; exact LImp.refl _
    · cases h
  · cases h⟩
theorem rInt_k : rInt.k = 1 := rfl
theorem rStr_k : rStr.k = 1 := rfl
theorem rK_k (k : IntKind) : (rK k).k = 1 := rfl
theorem rInt_enc (x : Int) : rInt.enc x = [DI x] := rfl
theorem rStr_enc (x : ByteArray) : rStr.enc x = [DS x] := rfl
theorem rK_enc (k : IntKind) (x : Int) : (rK k).enc x = [.v (.int k x)] := rfl
theorem cInt_enc (x : Int) : cInt.enc x = DI x := rfl
theorem cBool_enc (x : Bool) : cBool.enc x = DB x := rfl
theorem cStr_enc (x : ByteArray) : cStr.enc x = DS x := rfl
theorem cK_enc (k : IntKind) (x : Int) : (cK k).enc x = .v (.int k x) := rfl
theorem cInt_dec (x : Int) : cInt.dec (DI x) = some x := rfl
theorem cBool_dec (x : Bool) : cBool.dec (DB x) = some x := rfl
theorem cStr_dec (x : ByteArray) : cStr.dec (DS x) = some x := rfl
theorem cK_dec (k : IntKind) (x : Int) : (cK k).dec (.v (.int k x)) = some x := by simp [cK]
theorem cList_enc {α : Type} (r : Row α) (l : List α) : (cList r).enc l = .sl r.k (l.map r.enc) := rfl
theorem cAgg_enc {α : Type} (r : Row α) (x : α) : (cAgg r).enc x = .agg (r.enc x) := rfl
theorem cAgg_dec {α : Type} (r : Row α) (l : List D) : (cAgg r).dec (.agg l) = r.dec l := rfl
theorem rInt_decL (l : List Int) : (cList rInt).dec (.sl 1 (l.map rInt.enc)) = some l := cList_dec rInt l 1 rfl
theorem rStr_decL (l : List ByteArray) : (cList rStr).dec (.sl 1 (l.map rStr.enc)) = some l := cList_dec rStr l 1 rfl
theorem rK_decL (k : IntKind) (l : List Int) : (cList (rK k)).dec (.sl 1 (l.map (rK k).enc)) = some l := cList_dec (rK k) l 1 rfl
theorem cList_nil {α : Type} (r : Row α) (k : Nat) : (cList r).dec (.sl k []) = some [] := by
  simp only [cList, decSl]; split <;> rfl
theorem cTup2_enc {α β : Type} (A : Cod α) (B : Cod β) (x : α × β) : (cTup2 A B).enc x = .tup [A.enc x.1, B.enc x.2] := rfl
theorem cTup3_enc {α β γ : Type} (A : Cod α) (B : Cod β) (C : Cod γ) (x : α × β × γ) : (cTup3 A B C).enc x = .tup [A.enc x.1, B.enc x.2.1, C.enc x.2.2] := rfl

theorem cTup2_dec {α β : Type} (A : Cod α) (B : Cod β) (a b : D) : (cTup2 A B).dec (.tup [a, b]) = (match A.dec a, B.dec b with | some x, some y => some (x, y) | _, _ => none) := rfl
theorem cTup3_dec {α β γ : Type} (A : Cod α) (B : Cod β) (C : Cod γ) (a b c : D) : (cTup3 A B C).dec (.tup [a, b, c]) = (match A.dec a, B.dec b, C.dec c with | some x, some y, some z => some (x, y, z) | _, _, _ => none) := rfl
theorem bind_some' {α β : Type} (a : α) (f : α → Option β) : (some a).bind f = f a := rfl
theorem PureC.out {P : Program} {f : Nat} {ds : List D} {d d' : D} (h : PureC P f ds d) (hi : DImp d d') : PureC P f ds d' := fun m w vs hm hr => (h m w vs hm hr).mono fun e w' ⟨v, m', h1, h2, h3, h4⟩ => ⟨v, m', h1, h2, h3, hi _ _ _ h4⟩
/-- A function told of by its code; what it returns is decoded. -/
theorem pure_of_dec {P : Program} {c : Cx} {α : Type} (R : Cod α) (r : α) (hc : CxOk P c) {f : Nat} {fn : Func} {cd : Code} (hf : P.funcs[f]? = some fn) (hb : fn.body = some cd) (hN : fn.ntmps = c.N) {ds : List D} (hl : ds.length ≤ c.N) (hd : drawsB cd = true) (h : (c.call cd fn.results.toList ds).bind R.dec = some r) : PureC P f ds (R.enc r) := by
  obtain ⟨d, h1, h2⟩ := Option.bind_eq_some_iff.1 h
  exact (pure_of_call hc hf hb hN hl hd h1).out (R.ed _ _ h2)
/-- A function told of by a plain function. -/
def sp0 {ρ : Type} (R : Cod ρ) (f : Option ρ) : List D → Option D
  | [] => f.map R.enc
  | _ => none
def sp1 {α ρ : Type} (A : Cod α) (R : Cod ρ) (f : α → Option ρ) : List D → Option D
  | [a] => match A.dec a with | some x => (f x).map R.enc | none => none
  | _ => none
def sp2 {α β ρ : Type} (A : Cod α) (B : Cod β) (R : Cod ρ) (f : α → β → Option ρ) : List D → Option D
  | [a, b] => match A.dec a, B.dec b with | some x, some y => (f x y).map R.enc | _, _ => none
  | _ => none
def sp3 {α β γ ρ : Type} (A : Cod α) (B : Cod β) (C : Cod γ) (R : Cod ρ) (f : α → β → γ → Option ρ) : List D → Option D
  | [a, b, c] => match A.dec a, B.dec b, C.dec c with | some x, some y, some z => (f x y z).map R.enc | _, _, _ => none
  | _ => none
def sp4 {α β γ δ ρ : Type} (A : Cod α) (B : Cod β) (C : Cod γ) (E : Cod δ) (R : Cod ρ) (f : α → β → γ → δ → Option ρ) : List D → Option D
  | [a, b, c, e] => match A.dec a, B.dec b, C.dec c, E.dec e with | some x, some y, some z, some u => (f x y z u).map R.enc | _, _, _, _ => none
  | _ => none
def sp5 {α β γ δ ε ρ : Type} (A : Cod α) (B : Cod β) (C : Cod γ) (E : Cod δ) (G : Cod ε) (R : Cod ρ) (f : α → β → γ → δ → ε → Option ρ) : List D → Option D
  | [a, b, c, e, g] => match A.dec a, B.dec b, C.dec c, E.dec e, G.dec g with | some x, some y, some z, some u, some v => (f x y z u v).map R.enc | _, _, _, _, _ => none
  | _ => none
theorem PureC.imp {P : Program} {f : Nat} {ds ds' : List D} {d : D} (h : PureC P f ds' d) (hi : LImp ds ds') : PureC P f ds d := fun m w vs hm hr => h m w vs hm (hi.rel hr)
section
variable {P : Program} {f : Nat}
theorem ok_sp0 {ρ : Type} {R : Cod ρ} {F : Option ρ} (h : ∀ r, F = some r → PureC P f [] (R.enc r)) : ∀ ds d, sp0 R F ds = some d → PureC P f ds d := by
  intro ds d hd
  unfold sp0 at hd
  split at hd
  · obtain ⟨r, hr, rfl⟩ := Option.map_eq_some_iff.1 hd
    exact h r hr
  · cases hd
theorem ok_sp1 {α ρ : Type} {A : Cod α} {R : Cod ρ} {F : α → Option ρ} (h : ∀ x r, F x = some r → PureC P f [A.enc x] (R.enc r)) : ∀ ds d, sp1 A R F ds = some d → PureC P f ds d := by
  intro ds d hd
  unfold sp1 at hd
  split at hd
  · split at hd
    · rename_i x hx
      obtain ⟨r, hr, rfl⟩ := Option.map_eq_some_iff.1 hd
      exact (h x r hr).imp ⟨_, _, rfl, A.ed _ _ hx, rfl⟩
    · cases hd
  · cases hd
theorem ok_sp2 {α β ρ : Type} {A : Cod α} {B : Cod β} {R : Cod ρ} {F : α → β → Option ρ} (h : ∀ x y r, F x y = some r → PureC P f [A.enc x, B.enc y] (R.enc r)) : ∀ ds d, sp2 A B R F ds = some d → PureC P f ds d := by
  intro ds d hd
  unfold sp2 at hd
  split at hd
  · split at hd
    · rename_i x y hx hy
      obtain ⟨r, hr, rfl⟩ := Option.map_eq_some_iff.1 hd
      exact (h x y r hr).imp ⟨_, _, rfl, A.ed _ _ hx, _, _, rfl, B.ed _ _ hy, rfl⟩
    · cases hd
  · cases hd
theorem ok_sp3 {α β γ ρ : Type} {A : Cod α} {B : Cod β} {C : Cod γ} {R : Cod ρ} {F : α → β → γ → Option ρ} (h : ∀ x y z r, F x y z = some r → PureC P f [A.enc x, B.enc y, C.enc z] (R.enc r)) : ∀ ds d, sp3 A B C R F ds = some d → PureC P f ds d := by
  intro ds d hd
  unfold sp3 at hd
  split at hd
  · split at hd
    · rename_i x y z hx hy hz
      obtain ⟨r, hr, rfl⟩ := Option.map_eq_some_iff.1 hd
      exact (h x y z r hr).imp ⟨_, _, rfl, A.ed _ _ hx, _, _, rfl, B.ed _ _ hy, _, _, rfl, C.ed _ _ hz, rfl⟩
    · cases hd
  · cases hd
theorem ok_sp4 {α β γ δ ρ : Type} {A : Cod α} {B : Cod β} {C : Cod γ} {E : Cod δ} {R : Cod ρ} {F : α → β → γ → δ → Option ρ} (h : ∀ x y z u r, F x y z u = some r → PureC P f [A.enc x, B.enc y, C.enc z, E.enc u] (R.enc r)) : ∀ ds d, sp4 A B C E R F ds = some d → PureC P f ds d := by
  intro ds d hd
  unfold sp4 at hd
  split at hd
  · split at hd
    · rename_i x y z u hx hy hz hu
      obtain ⟨r, hr, rfl⟩ := Option.map_eq_some_iff.1 hd
      exact (h x y z u r hr).imp ⟨_, _, rfl, A.ed _ _ hx, _, _, rfl, B.ed _ _ hy, _, _, rfl, C.ed _ _ hz, _, _, rfl, E.ed _ _ hu, rfl⟩
    · cases hd
  · cases hd
theorem ok_sp5 {α β γ δ ε ρ : Type} {A : Cod α} {B : Cod β} {C : Cod γ} {E : Cod δ} {G : Cod ε} {R : Cod ρ} {F : α → β → γ → δ → ε → Option ρ} (h : ∀ x y z u v r, F x y z u v = some r → PureC P f [A.enc x, B.enc y, C.enc z, E.enc u, G.enc v] (R.enc r)) : ∀ ds d, sp5 A B C E G R F ds = some d → PureC P f ds d := by
  intro ds d hd
  unfold sp5 at hd
  split at hd
  · split at hd
    · rename_i x y z u v hx hy hz hu hv
      obtain ⟨r, hr, rfl⟩ := Option.map_eq_some_iff.1 hd
      exact (h x y z u v r hr).imp ⟨_, _, rfl, A.ed _ _ hx, _, _, rfl, B.ed _ _ hy, _, _, rfl, C.ed _ _ hz, _, _, rfl, E.ed _ _ hu, _, _, rfl, G.ed _ _ hv, rfl⟩
    · cases hd
  · cases hd

/-- The functions that are known. -/
def delOf (l : List (Nat × (List D → Option D))) (f : Nat) (ds : List D) : Option D := match getA l f with | some s => s ds | none => none
theorem del_nil : DelOk P (delOf []) := fun f ds d h => by cases h
theorem del_cons {l : List (Nat × (List D → Option D))} {s : List D → Option D} (hl : DelOk P (delOf l)) (he : ∀ xs w, (callFunc f xs).run P w = .ok (.enter f xs) w) (hs : ∀ ds d, s ds = some d → PureC P f ds d) : DelOk P (delOf ((f, s) :: l)) := by
  intro g ds d h
  unfold delOf at h
  simp only [getA] at h
  by_cases e : g = f
  · subst e; rw [if_pos rfl] at h; exact ⟨he, hs ds d h⟩
  · rw [if_neg e] at h; exact hl g ds d h
end

def Cx.loop (c : Cx) (a : Code) (σ : St) : Option (AEx × St) := iter (c.code a) c.F σ
def Cx.seqK (c : Cx) (b : Code) : Option (AEx × St) → Option (AEx × St)
  | some (.normal, σ') => c.code b σ'
  | r => r
def blkK (id : Nat) : Option (AEx × St) → Option (AEx × St)
  | some (.exit j, σ') => if j = id then some (.normal, σ') else some (.exit j, σ')
  | r => r
def regK : Option St → Option (AEx × St)
  | some σ' => some (.normal, σ')
  | none => none
def Cx.closeK (c : Cx) (id : Nat) : Option St → Option St
  | some σ' => some (c.close id σ')
  | none => none
def Cx.opsK (c : Cx) (ops : List Oper) (i : Nat) (t : List Oper) : Option St → Option St
  | some σ' => c.ops ops (i + 1) t σ'
  | none => none
def Cx.putK (c : Cx) (i : Nat) (d : Option Nat) (σ : St) : Option Res → Option St
  | some r => σ.put c.N i d r
  | none => none
def Cx.stepK (c : Cx) (i : Nat) (o : Oper) (σ : St) : Option Bool → Option St
  | some true => c.putK i o.dst σ (aop c.Γ c.eqs c.Δ o.op σ.ev σ.boxes σ.toks)
  | some false => σ.put c.N i o.dst .skip
  | none => none
def Cx.condK (c : Cx) (a b : Code) (σ : St) : X → Option (AEx × St)
  | .d (.v (.bool t)) => (match t with | true => c.code a σ | false => c.code b σ)
  | _ => none
def Cx.callK (c : Cx) (rs : List ResultVar) : Option (AEx × St) → Option D
  | some (.exit _, _) => none
  | some (_, σ) => (match aRes c.Γ σ rs with
    | some r => some (oneOf r)
    | none => none)
  | none => none
section
variable (c : Cx) (σ : St)
theorem code_skip : c.code .skip σ = some (.normal, σ) := rfl
theorem code_label (l : Nat) : c.code (.label l) σ = some (.normal, σ) := rfl
theorem code_region (id : Nat) (ops : Array Oper) (d : Bool) : c.code (.region id ops d) σ = regK (c.region id ops.toList σ) := by
  simp only [Cx.code, regK]; cases c.region id ops.toList σ <;> rfl
theorem regK_some : regK (some σ) = some (.normal, σ) := rfl
theorem regK_none : regK none = none := rfl
theorem region_eq (id : Nat) (ops : List Oper) : c.region id ops σ = if startB (allocs ops) σ then c.closeK id (c.ops ops 0 ops σ) else none := by
  unfold Cx.region Cx.closeK; cases c.ops ops 0 ops σ <;> rfl
theorem closeK_some (id : Nat) : c.closeK id (some σ) = some (c.close id σ) := rfl
theorem ops_nil (ops : List Oper) (i : Nat) : c.ops ops i [] σ = some σ := rfl
theorem ops_cons (ops : List Oper) (i : Nat) (o : Oper) (t : List Oper) : c.ops ops i (o :: t) σ = c.opsK ops i t (c.step ops i o σ) := by
  simp only [Cx.ops, Cx.opsK]; cases c.step ops i o σ <;> rfl
theorem opsK_some (ops : List Oper) (i : Nat) (t : List Oper) : c.opsK ops i t (some σ) = c.ops ops (i + 1) t σ := rfl
theorem opsK_none (ops : List Oper) (i : Nat) (t : List Oper) : c.opsK ops i t none = none := rfl
theorem step_eq (ops : List Oper) (i : Nat) (o : Oper) : c.step ops i o σ = c.stepK i o σ (aWanted ops σ o) := by
  unfold Cx.step Cx.stepK
  cases aWanted ops σ o with
  | none => rfl
  | some b => cases b <;> simp only [Cx.putK] <;> (try rfl) <;> (cases aop c.Γ c.eqs c.Δ o.op σ.ev σ.boxes σ.toks <;> rfl)
theorem stepK_t (i : Nat) (o : Oper) : c.stepK i o σ (some true) = c.putK i o.dst σ (aop c.Γ c.eqs c.Δ o.op σ.ev σ.boxes σ.toks) := rfl
theorem stepK_f (i : Nat) (o : Oper) : c.stepK i o σ (some false) = σ.put c.N i o.dst .skip := rfl
theorem putK_some (i : Nat) (d : Option Nat) (r : Res) : c.putK i d σ (some r) = σ.put c.N i d r := rfl
theorem code_seq (a b : Code) : c.code (.seq a b) σ = c.seqK b (c.code a σ) := by
  simp only [Cx.code, Cx.seqK]; cases c.code a σ with
  | none => rfl
  | some p => obtain ⟨e, σ'⟩ := p; cases e <;> rfl
theorem seqK_n (b : Code) : c.seqK b (some (.normal, σ)) = c.code b σ := rfl
theorem seqK_e (b : Code) (j : Nat) : c.seqK b (some (.exit j, σ)) = some (.exit j, σ) := rfl
theorem seqK_r (b : Code) : c.seqK b (some (.ret, σ)) = some (.ret, σ) := rfl
theorem code_cond (x : Operand) (a b : Code) : c.code (.cond x a b) σ = c.condK a b σ (σ.ev x) := by
  simp only [Cx.code, Cx.condK]; rfl
theorem condK_t (a b : Code) : c.condK a b σ (.d (.v (.bool true))) = c.code a σ := rfl
theorem condK_f (a b : Code) : c.condK a b σ (.d (.v (.bool false))) = c.code b σ := rfl
theorem code_block (id : Nat) (a : Code) : c.code (.block id a) σ = blkK id (c.code a σ) := by
  simp only [Cx.code, blkK]; cases c.code a σ with
  | none => rfl
  | some p => obtain ⟨e, σ'⟩ := p; cases e <;> rfl
theorem blkK_n (id : Nat) : blkK id (some (.normal, σ)) = some (.normal, σ) := rfl
theorem blkK_e (id j : Nat) : blkK id (some (.exit j, σ)) = if j = id then some (.normal, σ) else some (.exit j, σ) := rfl
theorem blkK_r (id : Nat) : blkK id (some (.ret, σ)) = some (.ret, σ) := rfl
theorem code_loop (a : Code) : c.code (.loop a) σ = c.loop a σ := rfl
theorem code_exit (id : Nat) : c.code (.exit id) σ = some (.exit id, σ) := rfl
theorem code_scope (a : Code) : c.code (.scope a) σ = c.code a σ := rfl
theorem code_ret : c.code .ret σ = some (.ret, σ) := rfl
theorem call_eq (cd : Code) (rs : List ResultVar) (ds : List D) : c.call cd rs ds = c.callK rs (c.code cd ⟨argT 0 ds, [], []⟩) := by
  unfold Cx.call Cx.callK
  cases c.code cd ⟨argT 0 ds, [], []⟩ with
  | none => rfl
  | some p => obtain ⟨e, σ'⟩ := p; cases e <;> rfl
theorem callK_n (rs : List ResultVar) : c.callK rs (some (.normal, σ)) = (match aRes c.Γ σ rs with | some r => some (oneOf r) | none => none) := rfl
theorem callK_r (rs : List ResultVar) : c.callK rs (some (.ret, σ)) = (match aRes c.Γ σ rs with | some r => some (oneOf r) | none => none) := rfl
end
/-- A loop that goes on n rounds, and then ends. -/
theorem iter_run {f : St → Option (AEx × St)} (S : Nat → St) (e : AEx) (σ' : St) (he : e ≠ .normal) : ∀ (n k F : Nat), (∀ j, k ≤ j → j < k + n → f (S j) = some (.normal, S (j + 1))) → f (S (k + n)) = some (e, σ') → n < F → iter f F (S k) = some (e, σ')
  | 0, k, F, _, h, hF => by
    obtain ⟨F', rfl⟩ : ∃ F', F = F' + 1 := ⟨F - 1, by omega⟩
    simp only [iter]
    rw [Nat.add_zero] at h
    rw [h]
    cases e with
    | normal => exact absurd rfl he
    | _ => rfl
  | n + 1, k, F, hs, h, hF => by
    obtain ⟨F', rfl⟩ : ∃ F', F = F' + 1 := ⟨F - 1, by omega⟩
    simp only [iter]
    rw [hs k (Nat.le_refl _) (by omega)]
    exact iter_run S e σ' he n (k + 1) F' (fun j h1 h2 => hs j (by omega) (by omega)) (by rw [show k + 1 + n = k + (n + 1) by omega]; exact h) (by omega)
theorem loop_run {c : Cx} {a : Code} (S : Nat → St) (e : AEx) (σ' : St) (n : Nat) (he : e ≠ .normal) (hs : ∀ j, j < n → c.code a (S j) = some (.normal, S (j + 1))) (h : c.code a (S n) = some (e, σ')) (hF : n < c.F) : c.loop a (S 0) = some (e, σ') :=
  iter_run S e σ' he n 0 c.F (fun j _ h2 => hs j (by omega)) (by rw [Nat.zero_add]; exact h) hF
def stopK : Option (AEx × St) → Option (AEx × St)
  | some (.normal, _) => none
  | r => r
theorem stopK_n (σ : St) : stopK (some (.normal, σ)) = none := rfl
theorem stopK_e (j : Nat) (σ : St) : stopK (some (.exit j, σ)) = some (.exit j, σ) := rfl
theorem stopK_r (σ : St) : stopK (some (.ret, σ)) = some (.ret, σ) := rfl
/-- A loop: n rounds go on; what comes behind is told of the round that ends it. -/
theorem loop_then {c : Cx} {a : Code} {σ0 : St} {β : Type} {r : β} {R : Option (AEx × St)} (hL : c.loop a σ0 = R) (S : Nat → St) (n : Nat) (h0 : σ0 = S 0) (K : Option (AEx × St) → Option β) (hs : ∀ j, j < n → c.code a (S j) = some (.normal, S (j + 1))) (hF : n < c.F) (hK : K none = none) (h : K (stopK (c.code a (S n))) = some r) : K R = some r := by
  subst h0
  cases hc : c.code a (S n) with
  | none => rw [hc] at h; change K none = some r at h; rw [hK] at h; cases h
  | some p =>
    obtain ⟨e, σ'⟩ := p
    rw [hc] at h
    cases e with
    | normal => change K none = some r at h; rw [hK] at h; cases h
    | _ => rw [← hL, loop_run S _ σ' n (by simp) hs hc hF]; exact h
/-- Either all are so, or there is a first one that is not. -/
theorem first_not (p : Nat → Bool) (n : Nat) : (∀ k, k < n → p k = true) ∨ ∃ k, k < n ∧ p k = false ∧ ∀ j, j < k → p j = true := by
  induction n with
  | zero => left; intro k h; omega
  | succ n ih =>
    rcases ih with h | ⟨k, h1, h2, h3⟩
    · cases hp : p n with
      | true => left; intro k hk; by_cases e : k = n; · subst e; exact hp
                · exact h k (by omega)
      | false => exact .inr ⟨n, by omega, hp, h⟩
    · exact .inr ⟨k, by omega, h2, h3⟩
theorem wrap_one : IntKind.i64.wrap 1 = 1 := by decide
theorem wrap_zero : IntKind.i64.wrap 0 = 0 := by decide
def bodyOf (f : Func) : Code := f.body.getD .skip
end Go.Proofs.Ytpkjmnfgpbliaaa
