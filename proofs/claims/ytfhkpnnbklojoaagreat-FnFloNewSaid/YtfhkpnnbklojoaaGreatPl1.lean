/- A part of the proof that FnFloNew holds: the law about the plain functions. -/
import Derived.Test.YtfhkpnnbklojoaaGreatFn1
set_option linter.unusedVariables false
set_option linter.unusedSimpArgs false
namespace Go.Proofs.YtfhkpnnbklojoaaGreatA.AS
@[simp] theorem bd_s {α β : Type} (a : α) (f : α → Option β) : bd (some a) f = f a := rfl
@[simp] theorem bd_n {α β : Type} (f : α → Option β) : bd none f = none := rfl
@[simp] theorem cnd_t {α : Type} (x y : Option α) : cnd true x y = x := rfl
@[simp] theorem cnd_f {α : Type} (x y : Option α) : cnd false x y = y := rfl
@[simp] theorem cs_l {A B C : Type} (a : A) (f : A → Option C) (g : B → Option C) : cs (.inl a) f g = f a := rfl
@[simp] theorem cs_r {A B C : Type} (a : B) (f : A → Option C) (g : B → Option C) : cs (.inr a) f g = g a := rfl
theorem bd_cnd {α β : Type} (c : Bool) (x y : Option α) (f : α → Option β) : bd (cnd c x y) f = cnd c (bd x f) (bd y f) := by cases c <;> rfl
theorem bd_bd {α β γ : Type} (x : Option α) (f : α → Option β) (g : β → Option γ) : bd (bd x f) g = bd x fun a => bd (f a) g := by cases x <;> rfl
theorem cnd_if {α : Type} (c : Bool) (x y : Option α) : cnd c x y = if c = true then x else y := by cases c <;> rfl
theorem gd_t {α : Type} {c : Prop} [Decidable c] (h : c) (x : Option α) : gd c x = x := by simp [gd, h]
theorem ix_t {α : Type} {l : List α} {n : Nat} (h : n < l.length) : ix l (n : Int) = some l[n] := by
  simp [ix, h]
theorem ix_i {α : Type} {l : List α} {n : Int} (h0 : 0 ≤ n) (h : n < l.length) : ix l n = some (l[n.toNat]'(by omega)) := by
  simp only [ix, h0, if_true]
  exact List.getElem?_eq_getElem _
theorem ix_mid {α : Type} (pre rest : List α) (x : α) : ix (pre ++ x :: rest) (pre.length : Int) = some x := by simp [ix]
theorem w6_id {n : Int} (h0 : -9223372036854775808 ≤ n) (h1 : n ≤ 9223372036854775807) : w6 n = n := by
  simp only [w6, IntKind.wrap, IntKind.bits, IntKind.signed]
  simp
  omega
@[simp] theorem cl_e {A B : Type} (f : A → Option B) : cl f = f := cl_eq f
def inR (n lo hi : Int) : Bool := decide (lo ≤ n) && decide (n ≤ hi)
theorem inR_iff {n lo hi : Int} : inR n lo hi = true ↔ lo ≤ n ∧ n ≤ hi := by simp [inR]
theorem clone_t {A : Type} {b : Nat} {l : List A} (h : l.length * b ≤ 140737488351232) : cloneF b l = some l := gd_t h _
def Tot {α : Type} (P : α → Prop) (o : Option α) : Prop := ∃ x, o = some x ∧ P x
theorem Tot.sm {α : Type} {P : α → Prop} {x : α} (h : P x) : Tot P (some x) := ⟨x, rfl, h⟩
theorem Tot.bd {α β : Type} {P : α → Prop} {Q : β → Prop} {o : Option α} {f : α → Option β} (h : Tot P o) (hf : ∀ x, P x → Tot Q (f x)) : Tot Q (bd o f) := by
  obtain ⟨x, rfl, hx⟩ := h; exact hf x hx
theorem Tot.cnd {α : Type} {P : α → Prop} {c : Bool} {a b : Option α} (h1 : c = true → Tot P a) (h2 : c = false → Tot P b) : Tot P (cnd c a b) := by
  cases c with
  | true => exact h1 rfl
  | false => exact h2 rfl
theorem Tot.gd {α : Type} {P : α → Prop} {c : Prop} [Decidable c] {a : Option α} (h : c) (h1 : Tot P a) : Tot P (gd c a) := by
  rw [gd_t h]; exact h1
theorem Tot.ix {α : Type} {P : α → Prop} {l : List α} {n : Int} (h0 : 0 ≤ n) (h1 : n < l.length) (h : ∀ x, x ∈ l → P x) : Tot P (ix l n) := by
  rw [ix_i h0 h1]
  exact ⟨_, rfl, h _ (List.getElem_mem _)⟩
theorem Tot.ixT {α : Type} {l : List α} {n : Int} (h0 : 0 ≤ n) (h1 : n < l.length) : Tot (fun x => x ∈ l) (AS.ix l n) := Tot.ix h0 h1 fun _ h => h
theorem Tot.mono {α : Type} {P Q : α → Prop} {o : Option α} (h : Tot P o) (hq : ∀ x, P x → Q x) : Tot Q o := by
  obtain ⟨x, rfl, hx⟩ := h; exact ⟨x, rfl, hq x hx⟩
theorem Tot.eq {α : Type} {x : α} {o : Option α} : Tot (fun y => y = x) o ↔ o = some x := ⟨fun ⟨y, h, e⟩ => by rw [h, e], fun h => ⟨x, h, rfl⟩⟩
def Stp {A B : Type} (I : A → Prop) (μ : A → Nat) (Q : B → Prop) (a : A) : A ⊕ B → Prop
  | .inl a' => I a' ∧ μ a' < μ a
  | .inr b => Q b
theorem Tot.iter {A B : Type} {f : A → Option (A ⊕ B)} (I : A → Prop) (μ : A → Nat) {Q : B → Prop} (hs : ∀ a, I a → Tot (Stp I μ Q a) (f a)) {a : A} (h0 : I a) : Tot Q (iter f a) := by
  have key : ∀ n a, μ a < n → I a → Tot Q (AS.iter f a) := by
    intro n
    induction n with
    | zero => intro a h; omega
    | succ n ih =>
      intro a hm hI
      obtain ⟨r, hr, hq⟩ := hs a hI
      rw [iter_eq, hr]
      cases r with
      | inl a' => exact ih a' (by have := hq.2; omega) hq.1
      | inr b => exact ⟨b, rfl, hq⟩
  exact key _ a (Nat.lt_succ_self _) h0
theorem iter_val {A B : Type} {f : A → Option (A ⊕ B)} (I : A → Prop) (μ : A → Nat) {b : B} (hs : ∀ a, I a → Tot (Stp I μ (fun x => x = b) a) (f a)) {a : A} (h0 : I a) : iter f a = some b := Tot.eq.1 (Tot.iter I μ hs h0)
theorem drop_i {α : Type} {l : List α} {n : Int} (h0 : 0 ≤ n) (h : n < l.length) : ∃ x, ix l n = some x ∧ x ∈ l ∧ l.drop n.toNat = x :: l.drop (n + 1).toNat ∧ l.take (n + 1).toNat = l.take n.toNat ++ [x] := by
  refine ⟨_, ix_i h0 h, List.getElem_mem _, ?_, ?_⟩
  · have e : (n + 1).toNat = n.toNat + 1 := by omega
    rw [e]
    exact List.drop_eq_getElem_cons (by omega)
  · have e : (n + 1).toNat = n.toNat + 1 := by omega
    rw [e, List.take_add_one, List.getElem?_eq_getElem (by omega)]; rfl
def idxG {α : Type} (q : α → Bool) : List α → Int → Int
  | [], _ => -1
  | x :: r, i => if q x then i else idxG q r (i + 1)
theorem idxG_ge {α : Type} (q : α → Bool) : ∀ (l : List α) (i : Int), 0 ≤ i → decide (idxG q l i ≥ 0) = l.any q
  | [], i, h => by simp [idxG]
  | x :: r, i, h => by
    simp only [idxG, List.any_cons]
    by_cases hq : q x = true
    · simp [hq, h]
    · simpa [hq] using idxG_ge q r (i + 1) (by omega)
theorem indexF {α : Type} (l : List α) (p : α → Option Bool) (q : α → Bool) (hp : ∀ x, x ∈ l → p x = some (q x)) (hl : l.length < 1000000000) :
    bd (iter (A := Int) (B := Int ⊕ PUnit) (fun v1 => cnd (decide (v1 < (l.length : Int))) (bd (ix l v1) fun v2 => bd (p v2) fun v3 => cnd v3 (some (.inr (.inl v1))) (some (.inl (w6 (v1 + 1))))) (some (.inr (.inr ())))) 0) (fun v4 => cs v4 (fun v5 => some v5) fun v6 => some (-1)) = some (idxG q l 0) := by
  have h := Tot.iter (f := fun v1 : Int => cnd (decide (v1 < (l.length : Int))) (bd (ix l v1) fun v2 => bd (p v2) fun v3 => cnd v3 (some (.inr (.inl v1))) (some (.inl (w6 (v1 + 1))))) (some (.inr (.inr ()))))
    (fun i => 0 ≤ i ∧ i ≤ l.length ∧ idxG q (l.drop i.toNat) i = idxG q l 0) (fun i => (l.length - i).toNat) (Q := fun r : Int ⊕ PUnit => (match r with | .inl v => v | .inr _ => -1) = idxG q l 0) (fun i hi => ?_) (a := 0) ⟨by omega, by omega, by simp⟩
  · obtain ⟨r, hr, hq⟩ := h
    rw [hr]
    cases r with
    | inl v => simpa using hq
    | inr v => simpa using hq
  · obtain ⟨h0, h1, h2⟩ := hi
    refine Tot.cnd (fun h => ?_) (fun h => ?_)
    · have h : i < l.length := by simpa using h
      obtain ⟨x, e1, e2, e3, _⟩ := drop_i h0 h
      rw [e3] at h2
      simp only [e1, hp x e2, bd_s]
      rw [w6_id (by omega) (by omega)]
      refine Tot.cnd (fun hq => Tot.sm ?_) (fun hq => Tot.sm ?_)
      · simp only [idxG, hq, if_true] at h2; exact h2
      · simp only [idxG, hq] at h2
        refine ⟨⟨by omega, by omega, by simpa using h2⟩, ?_⟩
        show (l.length - (i + 1)).toNat < (l.length - i).toNat
        omega
    · have h : ¬ i < l.length := by simpa using h
      refine Tot.sm ?_
      have e : l.drop i.toNat = [] := List.drop_eq_nil_of_le (by omega)
      rw [e] at h2
      exact h2
@[simp] theorem i_in_e (a b c : Int) : i_in (a, b, c) = some (inR a b c) := by
  by_cases h : b ≤ a <;> simp [i_in, inR, h]
@[simp] theorem s_l1In_e (a b c : Int) : s_l1In (a, b, c) = some (inR a b c) := by
  by_cases h : b ≤ a <;> simp [s_l1In, inR, h]
@[simp] theorem i_tells_e (a : Int) : i_tells a = some (inR a 1 4) := by simp [i_tells]
@[simp] theorem i_isTime_e (a : Int) : i_isTime a = some (inR a 0 1000) := by simp [i_isTime]
@[simp] theorem i_isKey_e (a : Int) : i_isKey a = some (inR a 0 3) := by simp [i_isKey]
def jobOk (j : JobJob) : Bool :=
  inR j.1 1 3 && inR j.2.1 1 2 && inR j.2.2.1 1 3 && inR j.2.2.2.1 1 20 && (if j.2.2.1 == 2 then inR j.2.2.2.2.1 1 j.2.2.2.1 && decide (j.2.2.2.1 ≤ w6 (4 * j.2.2.2.2.1)) else j.2.2.2.2.1 == 0) && inR j.2.2.2.2.2.1 0 20 && inR j.2.2.2.2.2.2.1 1 4 && inR j.2.2.2.2.2.2.2.2.1 (-9) 9 && inR j.2.2.2.2.2.2.2.2.2 1 4
theorem i_JobOk_e (j : JobJob) : i_JobOk j = some (jobOk j) := by
  simp only [i_JobOk, i_in_e, i_tells_e, bd_s, jobOk]
  cases inR j.1 1 3 <;> (try simp)
  cases inR j.2.1 1 2 <;> (try simp)
  cases inR j.2.2.1 1 3 <;> (try simp)
  cases inR j.2.2.2.1 1 20 <;> (try simp)
  cases hk : (j.2.2.1 == (2 : Int)) <;> (try simp [hk])
  · simp only [beq_eq_false_iff_ne, ne_eq] at hk
    cases (j.2.2.2.2.1 == (0 : Int)) <;> (try simp [hk])
    cases inR j.2.2.2.2.2.1 0 20 <;> (try simp)
    cases inR j.2.2.2.2.2.2.1 1 4 <;> (try simp)
    cases inR j.2.2.2.2.2.2.2.2.1 (-9) 9 <;> (try simp)
  · simp only [beq_iff_eq] at hk
    simp only [hk, if_true]
    cases inR j.2.2.2.2.1 1 j.2.2.2.1 <;> (try simp)
    cases decide (j.2.2.2.1 ≤ w6 (4 * j.2.2.2.2.1)) <;> (try simp)
    cases inR j.2.2.2.2.2.1 0 20 <;> (try simp)
    cases inR j.2.2.2.2.2.2.1 1 4 <;> (try simp)
    cases inR j.2.2.2.2.2.2.2.2.1 (-9) 9 <;> (try simp)
theorem s_JobOk_e (j : JobJob) : s_JobOk j = some (jobOk j) := by
  have hd : decide (j.2.2.2.1 > w6 (4 * j.2.2.2.2.1)) = !decide (j.2.2.2.1 ≤ w6 (4 * j.2.2.2.2.1)) := by
    by_cases h : j.2.2.2.1 ≤ w6 (4 * j.2.2.2.2.1)
    · simp [h, show ¬ j.2.2.2.1 > w6 (4 * j.2.2.2.2.1) by omega]
    · simp [h, show j.2.2.2.1 > w6 (4 * j.2.2.2.2.1) by omega]
  simp only [s_JobOk, s_l1In_e, bd_s, jobOk, hd]
  cases inR j.1 1 3 <;> (try simp)
  cases inR j.2.1 1 2 <;> (try simp)
  cases inR j.2.2.1 1 3 <;> (try simp)
  cases inR j.2.2.2.1 1 20 <;> (try simp)
  cases hk : (j.2.2.1 == (2 : Int)) <;> (try simp [hk, bne])
  · simp only [beq_eq_false_iff_ne, ne_eq] at hk
    cases (j.2.2.2.2.1 == (0 : Int)) <;> (try simp [hk])
    cases inR j.2.2.2.2.2.1 0 20 <;> (try simp)
    cases inR j.2.2.2.2.2.2.1 1 4 <;> (try simp)
    cases inR j.2.2.2.2.2.2.2.2.1 (-9) 9 <;> (try simp)
  · simp only [beq_iff_eq] at hk
    simp only [hk, if_true]
    cases inR j.2.2.2.2.1 1 j.2.2.2.1 <;> (try simp)
    by_cases hs : j.2.2.2.1 ≤ w6 (4 * j.2.2.2.2.1)
    · have hs' : ¬ w6 (4 * j.2.2.2.2.1) < j.2.2.2.1 := by omega
      simp [hs, hs']
      cases inR j.2.2.2.2.2.1 0 20 <;> (try simp)
      cases inR j.2.2.2.2.2.2.1 1 4 <;> (try simp)
      cases inR j.2.2.2.2.2.2.2.2.1 (-9) 9 <;> (try simp)
    · have hs' : w6 (4 * j.2.2.2.2.1) < j.2.2.2.1 := by omega
      simp [hs, hs']
def itmOk (x : ItmItem) : Bool :=
  if x.1 == 1 then inR x.2.1 0 60 && inR x.2.2.1 0 3 && inR x.2.2.2.1 (-9) 9 && x.2.2.2.2 == 0
  else if x.1 == 2 then (inR x.2.1 1 60 || x.2.1 == 1000) && x.2.2.1 == 0 && x.2.2.2.1 == 0 && x.2.2.2.2 == 0
  else x.1 == 3 && x.2.1 == 0 && x.2.2.1 == 0 && x.2.2.2.1 == 0 && inR x.2.2.2.2 1 900
theorem i_ItmOk_e (x : ItmItem) : i_ItmOk x = some (itmOk x) := by
  simp only [i_ItmOk, i_in_e, bd_s, bd_cnd, cs_l, cs_r, itmOk]
  generalize (x.1 == (1 : Int)) = b1, (x.1 == (2 : Int)) = b2, (x.1 == (3 : Int)) = b3, (x.2.1 == (0 : Int)) = b4, (x.2.2.1 == (0 : Int)) = b5, (x.2.2.2.1 == (0 : Int)) = b6, (x.2.2.2.2 == (0 : Int)) = b7, (x.2.1 == (1000 : Int)) = b8, inR x.2.1 0 60 = c1, inR x.2.2.1 0 3 = c2, inR x.2.2.2.1 (-9) 9 = c3, inR x.2.1 1 60 = c4, inR x.2.2.2.2 1 900 = c5
  cases b1
  · cases b2
    · cases b3 <;> cases b4 <;> cases b5 <;> cases b6 <;> rfl
    · cases c4 <;> cases b8 <;> cases b5 <;> cases b6 <;> rfl
  · cases c1 <;> cases c2 <;> cases c3 <;> rfl
theorem s_ItmOk_e (x : ItmItem) : s_ItmOk x = some (itmOk x) := by
  simp only [s_ItmOk, s_l1In_e, bd_s, bd_cnd, cs_l, cs_r, itmOk]
  generalize (x.1 == (1 : Int)) = b1, (x.1 == (2 : Int)) = b2, (x.1 == (3 : Int)) = b3, (x.2.1 == (0 : Int)) = b4, (x.2.2.1 == (0 : Int)) = b5, (x.2.2.2.1 == (0 : Int)) = b6, (x.2.2.2.2 == (0 : Int)) = b7, (x.2.1 == (1000 : Int)) = b8, inR x.2.1 0 60 = c1, inR x.2.2.1 0 3 = c2, inR x.2.2.2.1 (-9) 9 = c3, inR x.2.1 1 60 = c4, inR x.2.2.2.2 1 900 = c5
  cases b1
  · cases b2
    · cases b3 <;> cases b4 <;> cases b5 <;> cases b6 <;> rfl
    · cases c4 <;> cases b8 <;> cases b5 <;> cases b6 <;> rfl
  · cases c1 <;> cases c2 <;> cases c3 <;> rfl
def logGo : Int → List ItmItem → Bool
  | _, [] => true
  | g, x :: r => if !itmOk x || x.1 == 3 || (x.1 == 2 && decide (x.2.1 ≤ g)) then false else logGo (if x.1 == 2 then x.2.1 else g) r
def isEnd (x : ItmItem) : Bool := (x.1 == 2) && ((x.2.1 == 1000) && ((x.2.2.1 == 0) && ((x.2.2.2.1 == 0) && ((x.2.2.2.2 == 0) && true))))
def logOk (l : List ItmItem) : Bool := inR l.length 1 40 && logGo 0 l && (match l.getLast? with | some x => isEnd x | none => false)
theorem ix_last {α : Type} {l : List α} (h1 : 1 ≤ l.length) (h2 : l.length < 1000000) : ∃ x, l.getLast? = some x ∧ ix l (w6 ((l.length : Int) - 1)) = some x := by
  rw [w6_id (by omega) (by omega)]
  have : ((l.length : Int) - 1) = ((l.length - 1 : Nat) : Int) := by omega
  rw [this, ix_t (by omega)]
  exact ⟨_, by rw [List.getLast?_eq_getElem?, List.getElem?_eq_getElem (by omega)], rfl⟩
theorem i_LogOk_e (l : List ItmItem) : i_LogOk l = some (logOk l) := by
  simp only [i_LogOk, i_in_e, bd_s, logOk]
  by_cases h : inR l.length 1 40 = true
  · obtain ⟨h1, h40⟩ := inR_iff.1 h
    obtain ⟨x, hx1, hx2⟩ := ix_last (l := l) (by omega) (by omega)
    have he : ((x.1 == 2) && ((x.2.1 == 1000) && ((x.2.2.1 == 0) && ((x.2.2.2.1 == 0) && ((x.2.2.2.2 == 0) && true))))) = isEnd x := rfl
    simp only [h, hx1, hx2, bd_s, Bool.not_true, cnd_f, he]
    refine Tot.eq.1 (Tot.bd (Tot.iter (fun s : Int × Int => 0 ≤ s.2 ∧ s.2 ≤ l.length ∧ logGo s.1 (l.drop s.2.toNat) = logGo 0 l) (fun s => (l.length - s.2).toNat) (Q := fun r => (match r with | .inl b => b = false ∧ logGo 0 l = false | .inr _ => logGo 0 l = true)) (fun s hs => ?_) ⟨by simp, by simp, by simp⟩) fun r hr => ?_)
    · obtain ⟨hs0, hs1, hs2⟩ := hs
      refine Tot.cnd (fun hc => ?_) (fun hc => ?_)
      · have hc : s.2 < l.length := by simpa using hc
        obtain ⟨y, e1, e2, e3, _⟩ := drop_i hs0 hc
        rw [e3] at hs2
        simp only [e1, bd_s, i_ItmOk_e]
        rw [w6_id (by omega) (by omega)]
        simp only [logGo] at hs2
        have hm : (l.length - (s.2 + 1)).toNat < (l.length - s.2).toNat := by omega
        cases k1 : itmOk y <;> cases k2 : (y.1 == (3 : Int)) <;> cases k3 : (y.1 == (2 : Int)) <;> cases k4 : decide (y.2.1 ≤ s.1) <;> simp only [k1, k2, k3, k4, bd_s, cnd_t, cnd_f, cs_l, cs_r, Bool.not_true, Bool.not_false, Bool.or_false, Bool.or_true, Bool.false_or, Bool.true_or, Bool.and_true, Bool.and_false, Bool.false_and, Bool.true_and, if_true, Bool.false_eq_true, if_false] at hs2 ⊢ <;> (refine Tot.sm ?_; first | exact ⟨rfl, hs2.symm⟩ | exact ⟨⟨by show 0 ≤ s.2 + 1; omega, by show s.2 + 1 ≤ l.length; omega, hs2⟩, hm⟩)
      · have hc : ¬ s.2 < l.length := by simpa using hc
        have e : l.drop s.2.toNat = [] := List.drop_eq_nil_of_le (by omega)
        rw [e] at hs2
        exact Tot.sm hs2.symm
    · cases r with
      | inl b => obtain ⟨rfl, hg⟩ := hr; exact Tot.sm (by simp [hg])
      | inr b => exact Tot.sm (by simp [show logGo 0 l = true from hr])
  · simp [h]
theorem s_LogOk_e (l : List ItmItem) : s_LogOk l = some (logOk l) := by
  simp only [s_LogOk, s_l1In_e, bd_s, logOk]
  by_cases h : inR l.length 1 40 = true
  · obtain ⟨h1, h40⟩ := inR_iff.1 h
    obtain ⟨x, hx1, hx2⟩ := ix_last (l := l) (by omega) (by omega)
    have he : ((x.1 == 2) && ((x.2.1 == 1000) && ((x.2.2.1 == 0) && ((x.2.2.2.1 == 0) && ((x.2.2.2.2 == 0) && true))))) = isEnd x := rfl
    simp only [h, hx1, hx2, bd_s, Bool.not_true, cnd_f, he]
    cases hx : isEnd x
    · simp
    simp only [Bool.not_true, cnd_f]
    refine Tot.eq.1 (Tot.bd (Tot.iter (fun s : Int × Int => 0 ≤ s.2 ∧ s.2 ≤ l.length ∧ logGo s.1 (l.drop s.2.toNat) = logGo 0 l) (fun s => (l.length - s.2).toNat) (Q := fun r => (match r with | .inl b => b = false ∧ logGo 0 l = false | .inr _ => logGo 0 l = true)) (fun s hs => ?_) ⟨by simp, by simp, by simp⟩) fun r hr => ?_)
    · obtain ⟨hs0, hs1, hs2⟩ := hs
      refine Tot.cnd (fun hc => ?_) (fun hc => ?_)
      · have hc : s.2 < l.length := by simpa using hc
        obtain ⟨y, e1, e2, e3, _⟩ := drop_i hs0 hc
        rw [e3] at hs2
        simp only [e1, bd_s, s_ItmOk_e]
        rw [w6_id (by omega) (by omega)]
        simp only [logGo] at hs2
        have hm : (l.length - (s.2 + 1)).toNat < (l.length - s.2).toNat := by omega
        cases k1 : itmOk y <;> cases k2 : (y.1 == (3 : Int)) <;> cases k3 : (y.1 == (2 : Int)) <;> cases k4 : decide (y.2.1 ≤ s.1) <;> simp only [k1, k2, k3, k4, bd_s, cnd_t, cnd_f, cs_l, cs_r, Bool.not_true, Bool.not_false, Bool.or_false, Bool.or_true, Bool.false_or, Bool.true_or, Bool.and_true, Bool.and_false, Bool.false_and, Bool.true_and, if_true, Bool.false_eq_true, if_false] at hs2 ⊢ <;> (refine Tot.sm ?_; first | exact ⟨rfl, hs2.symm⟩ | exact ⟨⟨by show 0 ≤ s.2 + 1; omega, by show s.2 + 1 ≤ l.length; omega, hs2⟩, hm⟩)
      · have hc : ¬ s.2 < l.length := by simpa using hc
        have e : l.drop s.2.toNat = [] := List.drop_eq_nil_of_le (by omega)
        rw [e] at hs2
        exact Tot.sm hs2.symm
    · cases r with
      | inl b => obtain ⟨rfl, hg⟩ := hr; exact Tot.sm (by simp [hg])
      | inr b => exact Tot.sm (by simp [show logGo 0 l = true from hr])
  · simp [h]
theorem it_u {A B : Type} (f : A → Option (A ⊕ B)) (a : A) : iter f a = bd (f a) fun r => cs r (iter f) some := by
  rw [iter_eq]; cases f a with
  | none => rfl
  | some r => cases r <;> rfl
theorem w6_1 : w6 1 = 1 := by decide
theorem w6_2 : w6 2 = 2 := by decide
theorem w6_3 : w6 3 = 3 := by decide
theorem w6_0 : w6 0 = 0 := by decide
abbrev op0 : OpState := (0, [])
abbrev sn0 (S : Nat) : CkpSnap := (op0, List.replicate S 0)
abbrev ckp0 (S T : Nat) : CkpState := (0, false, List.replicate S (-1), List.replicate T false, List.replicate T (op0, []), 0, List.replicate S 0, List.replicate T (sn0 S))
abbrev tsk0 (S : Nat) : TskTask := (List.replicate S ([], 0, false), op0, 0, 0, [], [])
abbrev snk0 : FloSink := ([], 0, [], [])
abbrev flo0 (j : JobJob) (logs : List (List ItmItem)) (S T : Nat) : FloFlow := (j, logs, List.replicate S (0, 0), List.replicate T (tsk0 S), List.replicate T snk0, ckp0 S T)
abbrev floZ : FloFlow := ((0, 0, 0, 0, 0, 0, 0, false, 0, 0), [], [], [], [], 0, false, [], [], [], 0, [], [])
def floNew (j : JobJob) (logs : List (List ItmItem)) : FloFlow := if jobOk j && (logs.length : Int) == j.1 && !(logs.any fun l => !logOk l) then flo0 j logs j.1.toNat j.2.1.toNat else floZ
theorem job_S {j : JobJob} (h : jobOk j = true) : (j.1 = 1 ∨ j.1 = 2 ∨ j.1 = 3) ∧ (j.2.1 = 1 ∨ j.2.1 = 2) := by
  simp only [jobOk, inR, Bool.and_eq_true, decide_eq_true_eq] at h
  omega
theorem any_mem {α : Type} {l : List α} {q : α → Bool} (h : ∀ x, x ∈ l → q x = false) : l.any q = false := by
  simpa using h
theorem any_rep {α : Type} (n : Nat) (x : α) (q : α → Bool) (h : q x = false) : (List.replicate n x).any q = false := by
  simp [h]
theorem cF_LItmItem (l : List (List ItmItem)) (p : List ItmItem → Option Bool) (q : List ItmItem → Bool) (hp : ∀ x, x ∈ l → p x = some (q x)) (hl : l.length < 1000000000) : g_ContainsFunc_LItmItem (l, p) = some (l.any q) := by
  simp only [g_ContainsFunc_LItmItem, g_IndexFunc_LItmItem, indexF l p q hp hl, bd_s, idxG_ge q l 0 (by omega)]
theorem cF_OpRow (l : List OpRow) (p : OpRow → Option Bool) (q : OpRow → Bool) (hp : ∀ x, x ∈ l → p x = some (q x)) (hl : l.length < 1000000000) : g_ContainsFunc_OpRow (l, p) = some (l.any q) := by
  simp only [g_ContainsFunc_OpRow, g_IndexFunc_OpRow, indexF l p q hp hl, bd_s, idxG_ge q l 0 (by omega)]
theorem cF_int (l : List Int) (p : Int → Option Bool) (q : Int → Bool) (hp : ∀ x, x ∈ l → p x = some (q x)) (hl : l.length < 1000000000) : g_ContainsFunc_int (l, p) = some (l.any q) := by
  simp only [g_ContainsFunc_int, g_IndexFunc_int, indexF l p q hp hl, bd_s, idxG_ge q l 0 (by omega)]
theorem cF_CkpSnap (l : List CkpSnap) (p : CkpSnap → Option Bool) (q : CkpSnap → Bool) (hp : ∀ x, x ∈ l → p x = some (q x)) (hl : l.length < 1000000000) : g_ContainsFunc_CkpSnap (l, p) = some (l.any q) := by
  simp only [g_ContainsFunc_CkpSnap, g_IndexFunc_CkpSnap, indexF l p q hp hl, bd_s, idxG_ge q l 0 (by omega)]
theorem cF_ItmItem (l : List ItmItem) (p : ItmItem → Option Bool) (q : ItmItem → Bool) (hp : ∀ x, x ∈ l → p x = some (q x)) (hl : l.length < 1000000000) : g_ContainsFunc_ItmItem (l, p) = some (l.any q) := by
  simp only [g_ContainsFunc_ItmItem, g_IndexFunc_ItmItem, indexF l p q hp hl, bd_s, idxG_ge q l 0 (by omega)]
theorem cF_TskIn (l : List TskIn) (p : TskIn → Option Bool) (q : TskIn → Bool) (hp : ∀ x, x ∈ l → p x = some (q x)) (hl : l.length < 1000000000) : g_ContainsFunc_TskIn (l, p) = some (l.any q) := by
  simp only [g_ContainsFunc_TskIn, g_IndexFunc_TskIn, indexF l p q hp hl, bd_s, idxG_ge q l 0 (by omega)]
theorem cF_PanPane (l : List PanPane) (p : PanPane → Option Bool) (q : PanPane → Bool) (hp : ∀ x, x ∈ l → p x = some (q x)) (hl : l.length < 1000000000) : g_ContainsFunc_PanPane (l, p) = some (l.any q) := by
  simp only [g_ContainsFunc_PanPane, g_IndexFunc_PanPane, indexF l p q hp hl, bd_s, idxG_ge q l 0 (by omega)]
theorem cF_LatPair (l : List LatPair) (p : LatPair → Option Bool) (q : LatPair → Bool) (hp : ∀ x, x ∈ l → p x = some (q x)) (hl : l.length < 1000000000) : g_ContainsFunc_LatPair (l, p) = some (l.any q) := by
  simp only [g_ContainsFunc_LatPair, g_IndexFunc_LatPair, indexF l p q hp hl, bd_s, idxG_ge q l 0 (by omega)]
theorem cF_FloSink (l : List FloSink) (p : FloSink → Option Bool) (q : FloSink → Bool) (hp : ∀ x, x ∈ l → p x = some (q x)) (hl : l.length < 1000000000) : g_ContainsFunc_FloSink (l, p) = some (l.any q) := by
  simp only [g_ContainsFunc_FloSink, g_IndexFunc_FloSink, indexF l p q hp hl, bd_s, idxG_ge q l 0 (by omega)]
theorem i_OpOk_z (j : JobJob) (h : jobOk j = true) : i_OpOk (j, op0) = some true := by
  simp [i_OpOk, i_JobOk_e, h, inR, it_u]
theorem s_OpOk_z (j : JobJob) (h : jobOk j = true) : s_OpOk (j, op0) = some true := by
  simp [s_OpOk, s_JobOk_e, h, inR, it_u]
theorem i_marksOk_z (j : JobJob) (S : Nat) (hj : j.1 = S) (hS : S < 100) : i_marksOk (j, List.replicate S 0) = some true := by
  simp only [i_marksOk, cl_e]
  rw [cF_int _ _ (fun x => !inR x 0 1000) (fun x _ => by simp [i_marksOk__1]) (by simp; omega), any_rep S 0 _ (by simp [inR])]
  simp [hj]
theorem i_TskNew_z (j : JobJob) (h : jobOk j = true) (S : Nat) (hj : j.1 = S) (hS : S = 1 ∨ S = 2 ∨ S = 3) : i_TskNew (j, op0, List.replicate S 0) = some (tsk0 S) := by
  simp only [i_TskNew, i_OpOk_z j h, i_marksOk_z j S hj (by omega), bd_s, Bool.not_true, cnd_f, i_OpState_copied, g_Clone_OpRow, cloneF]
  rcases hS with rfl | rfl | rfl <;> simp [it_u, gd, ix, w6_1, w6_2, w6_3]
theorem s_TskNew_z (j : JobJob) (h : jobOk j = true) (S : Nat) (hj : j.1 = S) (hS : S = 1 ∨ S = 2 ∨ S = 3) : s_TskNew (j, op0, List.replicate S 0) = some (tsk0 S) := by
  simp only [s_TskNew, s_OpOk_z j h, bd_s, Bool.not_true, cnd_f, s_l7Copy]
  rcases hS with rfl | rfl | rfl <;> simp [it_u, gd, ix, w6_1, w6_2, w6_3, hj, inR]
theorem g_Repeat_z (S : Nat) (hS : S = 1 ∨ S = 2 ∨ S = 3) : g_Repeat_int ([-1], (S : Int)) = some (List.replicate S (-1)) := by
  rcases hS with rfl | rfl | rfl
  · have h : b_Mul (wr .u64 1, wr .u64 1) = some (0, 1) := by kernel_rfl
    simp [g_Repeat_int, h, it_u, gd, w6_1]
  · have h : b_Mul (wr .u64 1, wr .u64 2) = some (0, 2) := by kernel_rfl
    simp [g_Repeat_int, h, it_u, gd, w6_1, w6_2]
  · have h : b_Mul (wr .u64 1, wr .u64 3) = some (0, 3) := by kernel_rfl
    simp [g_Repeat_int, h, it_u, gd, w6_1, w6_2, w6_3]
theorem i_CkpNew_z (j : JobJob) (h : jobOk j = true) (S T : Nat) (hj : j.1 = S) (hS : S = 1 ∨ S = 2 ∨ S = 3) (hk : j.2.1 = T) (hT : T = 1 ∨ T = 2) : i_CkpNew j = some (ckp0 S T) := by
  simp only [i_CkpNew, i_CkpState_idle, hj, g_Repeat_z S hS, i_JobOk_e, h, bd_s, Bool.not_true, cnd_f]
  rcases hS with rfl | rfl | rfl <;> rcases hT with rfl | rfl <;> simp [it_u, gd, w6_1, w6_2, w6_3, hj, hk]
theorem s_CkpNew_z (j : JobJob) (h : jobOk j = true) (S T : Nat) (hj : j.1 = S) (hS : S = 1 ∨ S = 2 ∨ S = 3) (hk : j.2.1 = T) (hT : T = 1 ∨ T = 2) : s_CkpNew j = some (ckp0 S T) := by
  simp only [s_CkpNew, s_l9Nobody, s_JobOk_e, h, bd_s, Bool.not_true, cnd_f]
  rcases hS with rfl | rfl | rfl <;> rcases hT with rfl | rfl <;> simp [it_u, gd, w6_1, w6_2, w6_3, hj, hk]
theorem logOk_len {l : List ItmItem} (h : logOk l = true) : 1 ≤ l.length ∧ l.length ≤ 40 := by
  simp only [logOk, Bool.and_eq_true] at h
  obtain ⟨h1, h2⟩ := inR_iff.1 h.1.1
  omega
theorem len1 {α : Type} {l : List α} (h : l.length = 1) : ∃ a, l = [a] := List.length_eq_one_iff.1 h
theorem len2 {α : Type} {l : List α} (h : l.length = 2) : ∃ a b, l = [a, b] := by
  match l, h with
  | [a, b], _ => exact ⟨a, b, rfl⟩
theorem len3 {α : Type} {l : List α} (h : l.length = 3) : ∃ a b c, l = [a, b, c] := by
  match l, h with
  | [a, b, c], _ => exact ⟨a, b, c, rfl⟩
theorem cl_it {l : List ItmItem} (h : logOk l = true) : g_Clone_ItmItem l = some l := clone_t (by have := logOk_len h; omega)
theorem i_logsOf_z (a : List (List ItmItem)) (ha : a.length = 1 ∨ a.length = 2 ∨ a.length = 3) (hl : ∀ l, l ∈ a → logOk l = true) : i_logsOf a = some a := by
  rcases ha with ha | ha | ha
  · obtain ⟨x, rfl⟩ := len1 ha
    have hx := cl_it (hl x (by simp))
    simp [i_logsOf, it_u, gd, ix, w6_1, hx]
  · obtain ⟨x, y, rfl⟩ := len2 ha
    have hx := cl_it (hl x (by simp))
    have hy := cl_it (hl y (by simp))
    simp [i_logsOf, it_u, gd, ix, w6_1, w6_2, hx, hy]
  · obtain ⟨x, y, z, rfl⟩ := len3 ha
    have hx := cl_it (hl x (by simp))
    have hy := cl_it (hl y (by simp))
    have hz := cl_it (hl z (by simp))
    simp [i_logsOf, it_u, gd, ix, w6_1, w6_2, w6_3, hx, hy, hz]
theorem i_FloNew_e (j : JobJob) (a : List (List ItmItem)) : i_FloNew (j, a) = some (floNew j a) := by
  simp only [i_FloNew, i_JobOk_e, bd_s, floNew, cl_e]
  by_cases hj : jobOk j = true
  case neg => simp [hj]
  obtain ⟨hS, hT⟩ := job_S hj
  by_cases hn : (a.length : Int) = j.1
  case neg =>
    have hb : ((a.length : Int) != j.1) = true := by simpa using hn
    have hb2 : ((a.length : Int) == j.1) = false := by simpa using hn
    simp [hj, hb, hb2]
  have hc := cF_LItmItem a i_FloNew__1 (fun l => !logOk l) (fun x _ => by simp [i_FloNew__1, i_LogOk_e]) (by omega)
  by_cases hl : (a.any fun l => !logOk l) = true
  · simp [hj, hn, hc, hl]
  have hl' : ∀ l, l ∈ a → logOk l = true := fun l hm => by
    have := (by simpa using hl : ∀ x ∈ a, logOk x = true) l hm
    exact this
  have hS' : a.length = 1 ∨ a.length = 2 ∨ a.length = 3 := by omega
  have h1 := i_logsOf_z a hS' hl'
  have hl2 : (a.any fun l => !logOk l) = false := by simpa using hl
  have hT' : j.2.1 = ((j.2.1.toNat : Nat) : Int) := by omega
  have h2 := i_CkpNew_z j hj a.length j.2.1.toNat hn.symm hS' hT' (by omega)
  have h3 := i_TskNew_z j hj a.length hn.symm hS'
  simp only [hj, hn, hc, hl2, h1, h2, bd_s, Bool.not_true, cnd_f, bne_self_eq_false, Bool.not_false, beq_self_eq_true, Bool.and_self, if_true]
  rw [← hn]
  rw [← hn] at hS
  rw [hT']
  generalize hk : j.2.1.toNat = T at *
  have hT2 : T = 1 ∨ T = 2 := by omega
  rcases hT2 with rfl | rfl
  · rcases hS' with hS' | hS' | hS' <;> rw [hS'] at h3 ⊢ <;> simp only [op0, List.replicate] at h3 <;> simp [it_u, gd, ix, w6_1, w6_2, w6_3, ← hn, h3, hT', hk, hS']
  · rcases hS' with hS' | hS' | hS' <;> rw [hS'] at h3 ⊢ <;> simp only [op0, List.replicate] at h3 <;> simp [it_u, gd, ix, w6_1, w6_2, w6_3, ← hn, h3, hT', hk, hS']
theorem s_FloNew_e (j : JobJob) (a : List (List ItmItem)) : s_FloNew (j, a) = some (floNew j a) := by
  simp only [s_FloNew, s_JobOk_e, bd_s, floNew]
  by_cases hj : jobOk j = true
  case neg => simp [hj]
  obtain ⟨hS, hT⟩ := job_S hj
  by_cases hn : (a.length : Int) = j.1
  case neg =>
    have hb : ((a.length : Int) != j.1) = true := by simpa using hn
    have hb2 : ((a.length : Int) == j.1) = false := by simpa using hn
    simp [hj, hb, hb2]
  have hS' : a.length = 1 ∨ a.length = 2 ∨ a.length = 3 := by omega
  have hT' : j.2.1 = ((j.2.1.toNat : Nat) : Int) := by omega
  have h2 := s_CkpNew_z j hj a.length j.2.1.toNat hn.symm hS' hT' (by omega)
  have h3 := s_TskNew_z j hj a.length hn.symm hS'
  have hg : ∀ l : List ItmItem, logOk l = true → l.length * 40 ≤ 140737488355328 := fun l h => by have := logOk_len h; omega
  simp only [hj, hn, h2, bd_s, Bool.not_true, cnd_f, bne_self_eq_false, Bool.not_false, beq_self_eq_true, Bool.and_self, if_true, Bool.true_and]
  rw [← hn]
  rw [← hn] at hS
  rw [hT']
  generalize hk : j.2.1.toNat = T at *
  have hT2 : T = 1 ∨ T = 2 := by omega
  rcases hS' with hS' | hS' | hS'
  · obtain ⟨x, rfl⟩ := len1 hS'
    simp only [op0, List.replicate, List.length] at h3
    cases hx : logOk x
    · simp [it_u, ix, s_LogOk_e, hx]
    · have gx := hg x hx
      rcases hT2 with rfl | rfl <;> simp [it_u, gd, ix, w6_1, w6_2, w6_3, ← hn, h3, hT', hk, s_LogOk_e, hx, gx]
  · obtain ⟨x, y, rfl⟩ := len2 hS'
    simp only [op0, List.replicate, List.length] at h3
    cases hx : logOk x
    · simp [it_u, ix, s_LogOk_e, hx]
    have gx := hg x hx
    cases hy : logOk y
    · simp [it_u, gd, ix, s_LogOk_e, hx, hy, gx, w6_1]
    · have gy := hg y hy
      rcases hT2 with rfl | rfl <;> simp [it_u, gd, ix, w6_1, w6_2, w6_3, ← hn, h3, hT', hk, s_LogOk_e, hx, hy, gx, gy]
  · obtain ⟨x, y, z, rfl⟩ := len3 hS'
    simp only [op0, List.replicate, List.length] at h3
    cases hx : logOk x
    · simp [it_u, ix, s_LogOk_e, hx]
    have gx := hg x hx
    cases hy : logOk y
    · simp [it_u, gd, ix, s_LogOk_e, hx, hy, gx, w6_1]
    have gy := hg y hy
    cases hz : logOk z
    · simp [it_u, gd, ix, s_LogOk_e, hx, hy, hz, gx, gy, w6_1, w6_2]
    · have gz := hg z hz
      rcases hT2 with rfl | rfl <;> simp [it_u, gd, ix, w6_1, w6_2, w6_3, ← hn, h3, hT', hk, s_LogOk_e, hx, hy, hz, gx, gy, gz]
theorem for_t {A B : Type} {f : A → Option (A ⊕ B)} (st : Int → A) (n : Nat) {b : B} (hn : n < 1000000000) (h0 : f (st n) = some (.inr b)) (hs : ∀ i : Nat, i < n → f (st i) = some (.inl (st ((i : Int) + 1)))) : iter f (st 0) = some b := by
  have key : ∀ k i : Nat, i + k = n → iter f (st i) = some b := by
    intro k
    induction k with
    | zero => intro i h; rw [it_u, show (i : Nat) = n by omega, h0]; rfl
    | succ k ih => intro i h; rw [it_u, hs i (by omega)]; exact ih (i + 1) (by omega)
  exact key n 0 (by omega)
theorem w6_s {i n : Nat} (h : i < n) (hn : n < 1000000000) : w6 ((i : Int) + 1) = (i : Int) + 1 := w6_id (by omega) (by omega)
theorem lt_d {i n : Nat} (h : i < n) : decide ((i : Int) < (n : Int)) = true := by simp; omega
theorem frItems_s (a : List ItmItem) (ha : a.length < 1000000000) : l_frItems (a, a) = some true := by
  simp only [l_frItems, bne_self_eq_false, cnd_f]
  rw [for_t (fun i => i) a.length (b := .inr ()) ha (by simp) (fun i hi => by simp [lt_d hi, hi, ix_t hi, w6_s hi ha])]
  rfl
theorem frLogs_s (a : List (List ItmItem)) (ha : a.length < 1000000000) (hl : ∀ l, l ∈ a → l.length < 1000000000) : l_frLogs (a, a) = some true := by
  simp only [l_frLogs, bne_self_eq_false, cnd_f]
  rw [for_t (fun i => i) a.length (b := .inr ()) ha (by simp) (fun i hi => by simp [lt_d hi, hi, ix_t hi, w6_s hi ha, frItems_s _ (hl _ (List.getElem_mem hi))])]
  rfl
theorem frPanes_s (a : List PanPane) (ha : a.length < 1000000000) : l_frPanes (a, a) = some true := by
  simp only [l_frPanes, bne_self_eq_false, cnd_f]
  rw [for_t (fun i => i) a.length (b := .inr ()) ha (by simp) (fun i hi => by simp [lt_d hi, hi, ix_t hi, w6_s hi ha])]
  rfl
theorem frLates_s (a : List LatPair) (ha : a.length < 1000000000) : l_frLates (a, a) = some true := by
  simp only [l_frLates, bne_self_eq_false, cnd_f]
  rw [for_t (fun i => i) a.length (b := .inr ()) ha (by simp) (fun i hi => by simp [lt_d hi, hi, ix_t hi, w6_s hi ha])]
  rfl
theorem frInts_s (a : List Int) (ha : a.length < 1000000000) : l_frInts (a, a) = some true := by
  simp only [l_frInts, bne_self_eq_false, cnd_f]
  rw [for_t (fun i => i) a.length (b := .inr ()) ha (by simp) (fun i hi => by simp [lt_d hi, hi, ix_t hi, w6_s hi ha])]
  rfl
def smTxn (t : TskTxn) : Prop := t.2.1.length < 1000000000 ∧ t.2.2.length < 1000000000
theorem frTxn_s (t : TskTxn) (h : smTxn t) : l_frTxn (t, t) = some true := by
  simp [l_frTxn, frPanes_s _ h.1, frLates_s _ h.2]
theorem frTxns_s (a : List TskTxn) (ha : a.length < 1000000000) (hl : ∀ l, l ∈ a → smTxn l) : l_frTxns (a, a) = some true := by
  simp only [l_frTxns, bne_self_eq_false, cnd_f]
  rw [for_t (fun i => i) a.length (b := .inr ()) ha (by simp) (fun i hi => by simp [lt_d hi, hi, ix_t hi, w6_s hi ha, frTxn_s _ (hl _ (List.getElem_mem hi))])]
  rfl
def smSink (k : FloSink) : Prop := k.1.length < 1000000000 ∧ (∀ t, t ∈ k.1 → smTxn t) ∧ smTxn k.2
theorem frSinks_s (a : List FloSink) (ha : a.length < 1000000000) (hl : ∀ l, l ∈ a → smSink l) : l_frSinks (a, a) = some true := by
  simp only [l_frSinks, bne_self_eq_false, cnd_f]
  rw [for_t (fun i => i) a.length (b := .inr ()) ha (by simp) (fun i hi => by
    have h := hl _ (List.getElem_mem hi)
    simp [lt_d hi, hi, ix_t hi, w6_s hi ha, frTxns_s _ h.1 h.2.1, frPanes_s _ h.2.2.1, frLates_s _ h.2.2.2])]
  rfl
theorem frOp_s (o : OpState) (ho : o.2.length < 1000000000) : l_frOp (o, o) = some true := by
  simp only [l_frOp, bne_self_eq_false, cnd_f, bd_s]
  rw [for_t (fun i => (o, o, i)) o.2.length (b := .inr ()) ho (by simp) (fun i hi => by simp [lt_d hi, hi, ix_t hi, w6_s hi ho])]
  rfl
def smSnap (k : CkpSnap) : Prop := k.1.2.length < 1000000000 ∧ k.2.length < 1000000000
theorem frSnaps_s (a : List CkpSnap) (ha : a.length < 1000000000) (hl : ∀ l, l ∈ a → smSnap l) : l_frSnaps (a, a) = some true := by
  simp only [l_frSnaps, bne_self_eq_false, cnd_f]
  rw [for_t (fun i => i) a.length (b := .inr ()) ha (by simp) (fun i hi => by
    have h := hl _ (List.getElem_mem hi)
    simp [lt_d hi, hi, ix_t hi, w6_s hi ha, frOp_s _ h.1, frInts_s _ h.2])]
  rfl
def smCkp (k : CkpState) : Prop := k.2.2.1.length < 1000000000 ∧ k.2.2.2.1.length < 1000000000 ∧ k.2.2.2.2.1.length < 1000000000 ∧ (∀ s, s ∈ k.2.2.2.2.1 → smSnap s) ∧ k.2.2.2.2.2.2.1.length < 1000000000 ∧ k.2.2.2.2.2.2.2.length < 1000000000 ∧ (∀ s, s ∈ k.2.2.2.2.2.2.2 → smSnap s)
theorem frCkp_s (k : CkpState) (h : smCkp k) : l_frCkp (k, k) = some true := by
  obtain ⟨h1, h2, h3, h4, h5, h6, h7⟩ := h
  simp only [l_frCkp, bne_self_eq_false, cnd_f, frInts_s _ h1, frSnaps_s _ h3 h4, frInts_s _ h5, frSnaps_s _ h6 h7, bd_s, Bool.not_true]
  rw [for_t (fun i => (k, k, i)) k.2.2.2.1.length (b := .inr ()) h2 (by simp) (fun i hi => by simp [lt_d hi, hi, ix_t hi, w6_s hi h2])]
  rfl
def smTask (k : TskTask) : Prop := k.1.length < 1000000000 ∧ (∀ c, c ∈ k.1 → c.1.length < 1000000000) ∧ k.2.1.2.length < 1000000000 ∧ smTxn k.2.2.2
theorem frTask_s (k : TskTask) (h : smTask k) : l_frTask (k, k) = some true := by
  obtain ⟨h1, h2, h3, h4⟩ := h
  simp only [l_frTask, bne_self_eq_false, cnd_f, frOp_s _ h3, frTxn_s _ h4, bd_s, Bool.not_true]
  rw [for_t (fun i => (k, k, i)) k.1.length (b := .inr ()) h1 (by simp) (fun i hi => by simp [lt_d hi, hi, ix_t hi, w6_s hi h1, frItems_s _ (h2 _ (List.getElem_mem hi))])]
  rfl
def smFlow (k : FloFlow) : Prop := k.2.1.length < 1000000000 ∧ (∀ l, l ∈ k.2.1 → l.length < 1000000000) ∧ k.2.2.1.length < 1000000000 ∧ k.2.2.2.1.length < 1000000000 ∧ (∀ t, t ∈ k.2.2.2.1 → smTask t) ∧ k.2.2.2.2.1.length < 1000000000 ∧ (∀ t, t ∈ k.2.2.2.2.1 → smSink t) ∧ smCkp k.2.2.2.2.2
theorem frFlow_s (k : FloFlow) (h : smFlow k) : l_frFlow (k, k) = some true := by
  obtain ⟨h1, h2, h3, h4, h5, h6, h7, h8⟩ := h
  simp only [l_frFlow, bne_self_eq_false, cnd_f, frLogs_s _ h1 h2, frSinks_s _ h6 h7, frCkp_s _ h8, bd_s, Bool.not_true, beq_self_eq_true, Bool.and_self]
  rw [for_t (fun i => (k, k, i)) k.2.2.1.length (b := .inr (k, k)) h3 (by simp) (fun i hi => by simp [lt_d hi, hi, ix_t hi, w6_s hi h3])]
  simp only [bd_s, cs_r]
  rw [for_t (fun i => (k, k, i)) k.2.2.2.1.length (b := .inr ()) h4 (by simp) (fun i hi => by simp [lt_d hi, hi, ix_t hi, w6_s hi h4, frTask_s _ (h5 _ (List.getElem_mem hi))])]
  rfl
theorem job_R {j : JobJob} (h : jobOk j = true) : 1 ≤ j.2.2.2.2.2.2.2.2.2 ∧ j.2.2.2.2.2.2.2.2.2 ≤ 4 := by
  simp only [jobOk, inR, Bool.and_eq_true, decide_eq_true_eq] at h
  omega
theorem w6_4 : w6 4 = 4 := by decide
theorem min_0 (S : Nat) (hS : S = 1 ∨ S = 2 ∨ S = 3) : g_Min_int (List.replicate S 0) = some 0 := by
  rcases hS with rfl | rfl | rfl <;> simp [g_Min_int, it_u, ix, w6_1, w6_2, w6_3]
theorem i_CkpSnap_z (j : JobJob) (h : jobOk j = true) (S : Nat) (hj : j.1 = S) (hS : S = 1 ∨ S = 2 ∨ S = 3) : i_CkpSnap_ok (sn0 S, j) = some true := by
  simp [i_CkpSnap_ok, i_OpOk_z j h, i_marksOk_z j S hj (by omega), min_0 S hS]
theorem i_CkpSafe_z (j : JobJob) (h : jobOk j = true) (S T : Nat) (hj : j.1 = S) (hS : S = 1 ∨ S = 2 ∨ S = 3) (hk : j.2.1 = T) (hT : T = 1 ∨ T = 2) : i_CkpSafe_ok ((0, List.replicate S 0, List.replicate T (sn0 S)), j) = some true := by
  have h1 := cF_int (List.replicate S 0) i_CkpSafe_ok_1 (fun x => !inR x 0 40) (fun x _ => by simp [i_CkpSafe_ok_1]) (by simp; omega)
  have h2 := cF_CkpSnap (List.replicate T (sn0 S)) (fun q => i_CkpSafe_ok_2 (q, j)) (fun x => false) (fun x hx => by rw [List.eq_of_mem_replicate hx]; simp [i_CkpSafe_ok_2, i_CkpSnap_z j h S hj hS]) (by simp; omega)
  rw [any_rep S 0 _ (by simp [inR])] at h1
  rw [any_rep T _ _ rfl] at h2
  simp only [i_CkpSafe_ok, cl_e, h1, h2]
  simp [inR, hj, hk]
theorem i_CkpOk_z (j : JobJob) (h : jobOk j = true) (S T : Nat) (hj : j.1 = S) (hS : S = 1 ∨ S = 2 ∨ S = 3) (hk : j.2.1 = T) (hT : T = 1 ∨ T = 2) : i_CkpOk (j, ckp0 S T) = some true := by
  simp only [i_CkpOk, i_CkpSafe_z j h S T hj hS hk hT, i_JobOk_e, h]
  rcases hS with rfl | rfl | rfl <;> rcases hT with rfl | rfl <;> simp [it_u, ix, w6_1, w6_2, w6_3, hj, hk, inR, i_CkpSnap_empty]
theorem i_TskTxn_z : i_TskTxn_ok (0, [], []) = some true := by
  have h1 := cF_PanPane [] i_told__1 (fun x => true) (fun x hx => by cases hx) (by simp)
  have h2 := cF_LatPair [] i_told__2 (fun x => true) (fun x hx => by cases hx) (by simp)
  simp [i_TskTxn_ok, i_told, h1, h2, inR]
theorem i_TskOk_z (j : JobJob) (h : jobOk j = true) (S : Nat) (hj : j.1 = S) (hS : S = 1 ∨ S = 2 ∨ S = 3) : i_TskOk (j, tsk0 S) = some true := by
  have hR := job_R h
  have hR' : 0 ≤ j.2.2.2.2.2.2.2.2.2 := by omega
  have h0 := cF_ItmItem [] i_TskIn_ok_1 (fun x => true) (fun x hx => by cases hx) (by simp)
  have h1 := cF_TskIn (List.replicate S ([], 0, false)) (fun q => i_TskOk__1 (q, j)) (fun x => false) (fun x hx => by rw [List.eq_of_mem_replicate hx]; simp [i_TskOk__1, i_TskIn_ok, h0, hR', inR]) (by simp; omega)
  rw [any_rep S _ _ rfl] at h1
  have h2 : i_TskHeld (tsk0 S) = some 0 := by
    rcases hS with rfl | rfl | rfl <;> simp [i_TskHeld, it_u, ix, w6_1, w6_2, w6_3]
  have h3 : i_TskLow (tsk0 S) = some 0 := by
    rcases hS with rfl | rfl | rfl <;> simp [i_TskLow, i_TskTask_marks, gd, g_Min_int, it_u, ix, w6_1, w6_2, w6_3, w6_4]
  simp only [i_TskOk, i_OpOk_z j h, cl_e, h1, h2, h3, i_TskTxn_z, bd_s]
  rcases hS with rfl | rfl | rfl <;> simp [hj, h1, h2, h3, inR, i_TskTxn_z]
theorem i_FloSink_z : i_FloSink_ok snk0 = some true := by
  have h1 := cF_PanPane [] i_told__1 (fun x => true) (fun x hx => by cases hx) (by simp)
  have h2 := cF_LatPair [] i_told__2 (fun x => true) (fun x hx => by cases hx) (by simp)
  simp [i_FloSink_ok, it_u, i_told, h1, h2, inR]
theorem ix_rep {α : Type} (S : Nat) (x : α) (i : Nat) (h : i < S) : ix (List.replicate S x) (i : Int) = some x := by
  rw [ix_t (by simpa using h)]; simp
theorem flo0_ok (j : JobJob) (a : List (List ItmItem)) (h : jobOk j = true) (S T : Nat) (hj : j.1 = S) (hS : S = 1 ∨ S = 2 ∨ S = 3) (hk : j.2.1 = T) (hT : T = 1 ∨ T = 2) (ha : a.length = S) (hl : ∀ l, l ∈ a → logOk l = true) : i_FloOk (flo0 j a S T) = some true := by
  have h5 := cF_FloSink (List.replicate T snk0) i_FloOk__1 (fun x => false) (fun x hx => by rw [List.eq_of_mem_replicate hx]; simp [i_FloOk__1, i_FloSink_z]) (by simp; omega)
  rw [any_rep T _ _ rfl] at h5
  simp only [i_FloOk, i_CkpOk_z j h S T hj hS hk hT, bd_s, Bool.not_true, cnd_f, ha, hj, hk, List.length_replicate, bne_self_eq_false, cl_e]
  rw [for_t (fun i => (flo0 j a S T, j, i)) S (b := .inr (flo0 j a S T, j)) (by omega) (by simp) (fun i hi => by
    have hi' : i < a.length := by omega
    have hm := hl _ (List.getElem_mem hi')
    have hg : ¬ (a[i].length : Int) < 0 := by omega
    simp only [lt_d hi, ix_t hi', ix_rep S _ i hi, i_LogOk_e, hm, bd_s, cnd_t, Bool.not_true, cnd_f, i_in_e]
    simp [inR, w6_s hi (by omega), hg])]
  simp only [bd_s, cs_r]
  rw [for_t (fun i => (flo0 j a S T, j, i)) T (b := .inr (flo0 j a S T)) (by omega) (by simp) (fun i hi => by
    simp only [List.length_replicate, lt_d hi, ix_rep T _ i hi, i_TskOk_z j h S hj hS, bd_s, cnd_t, Bool.not_true, cnd_f]
    simp [w6_s hi (by omega)])]
  simp only [bd_s, cs_r, h5]
  rfl
theorem floZ_ok : i_FloOk floZ = some false := by
  simp [i_FloOk, i_CkpOk, i_JobOk_e, jobOk, inR]
theorem flo0_sm (j : JobJob) (a : List (List ItmItem)) (S T : Nat) (hS : S = 1 ∨ S = 2 ∨ S = 3) (hT : T = 1 ∨ T = 2) (ha : a.length = S) (hl : ∀ l, l ∈ a → logOk l = true) : smFlow (flo0 j a S T) := by
  refine ⟨by simp; omega, fun l h => by have := logOk_len (hl l h); omega, by simp; omega, by simp; omega, fun t h => ?_, by simp; omega, fun t h => ?_, ?_⟩
  · rw [List.eq_of_mem_replicate h]
    refine ⟨by simp; omega, fun c h => ?_, by simp, by simp, by simp⟩
    rw [List.eq_of_mem_replicate h]; simp
  · rw [List.eq_of_mem_replicate h]
    exact ⟨by simp, fun t h => (by cases h), by simp, by simp⟩
  · refine ⟨by simp; omega, by simp; omega, by simp; omega, fun t h => ?_, by simp; omega, by simp; omega, fun t h => ?_⟩
    · rw [List.eq_of_mem_replicate h]; exact ⟨by simp, by simp⟩
    · rw [List.eq_of_mem_replicate h]; exact ⟨by simp, by simp; omega⟩
theorem floZ_sm : smFlow floZ := by
  refine ⟨by simp, fun l h => (by cases h), by simp, by simp, fun l h => (by cases h), by simp, fun l h => (by cases h), ?_⟩
  exact ⟨by simp, by simp, by simp, fun l h => (by cases h), by simp, by simp, fun l h => by cases h⟩
theorem frOk_z : l_frOk () = some true := by
  simp [l_frOk, i_WinOk, inR, w6_1]
theorem lens_z (a : List (List ItmItem)) (ha : a.length = 1 ∨ a.length = 2 ∨ a.length = 3) (hl : ∀ l, l ∈ a → logOk l = true) (j : JobJob) (T : Nat) (h : i_FloOk (flo0 j a a.length T) = some true) : ∃ n : Int, (iter (A:=(Int×Int)) (B:=Int) (fun (v8:(Int×Int))=>(cnd (decide (v8.2<(a.length:Int))) (bd (ix a v8.2) fun (v9:(List ItmItem))=>(some (.inl ((w6 (v8.1+(v9.length:Int))),(w6 (v8.2+(1:Int))))))) (some (.inr v8.1)))) ((0:Int),(0:Int))) = some n ∧ i_FloLeft (flo0 j a a.length T) = some n := by
  simp only [i_FloLeft, h, bd_s, Bool.not_true, cnd_f]
  rcases ha with ha | ha | ha
  · obtain ⟨x, rfl⟩ := len1 ha
    have hx := logOk_len (hl x (by simp))
    refine ⟨x.length, ?_, ?_⟩
    · simp [it_u, ix, w6_1, w6_id (n := (x.length : Int)) (by omega) (by omega)]
    · simp [it_u, ix, w6_1, w6_id (n := (x.length : Int)) (by omega) (by omega)]
  · obtain ⟨x, y, rfl⟩ := len2 ha
    have hx := logOk_len (hl x (by simp))
    have hy := logOk_len (hl y (by simp))
    refine ⟨x.length + y.length, ?_, ?_⟩
    · simp [it_u, ix, w6_1, w6_2, w6_id (n := (x.length : Int)) (by omega) (by omega), w6_id (n := (x.length + y.length : Int)) (by omega) (by omega)]
    · simp [it_u, ix, w6_1, w6_2, w6_id (n := (x.length : Int)) (by omega) (by omega), w6_id (n := (y.length : Int)) (by omega) (by omega), w6_id (n := (x.length + y.length : Int)) (by omega) (by omega)]
  · obtain ⟨x, y, z, rfl⟩ := len3 ha
    have hx := logOk_len (hl x (by simp))
    have hy := logOk_len (hl y (by simp))
    have hz := logOk_len (hl z (by simp))
    refine ⟨x.length + y.length + z.length, ?_, ?_⟩
    · simp [it_u, ix, w6_1, w6_2, w6_3, w6_id (n := (x.length : Int)) (by omega) (by omega), w6_id (n := (x.length + y.length : Int)) (by omega) (by omega), w6_id (n := (x.length + y.length + z.length : Int)) (by omega) (by omega)]
    · simp [it_u, ix, w6_1, w6_2, w6_3, w6_id (n := (x.length : Int)) (by omega) (by omega), w6_id (n := (y.length : Int)) (by omega) (by omega), w6_id (n := (z.length : Int)) (by omega) (by omega), w6_id (n := (x.length + y.length : Int)) (by omega) (by omega), w6_id (n := (x.length + y.length + z.length : Int)) (by omega) (by omega)]
theorem FnFloNew_mid (j : JobJob) (a : List (List ItmItem)) (l : List Int) (h6 : s_DrawFloNew l = some (j, a)) : l_FnFloNew l = some true := by
  by_cases hlen : (l.length : Int) > 1048576
  · simp [l_FnFloNew, hlen]
  have hlen' : decide ((l.length : Int) > 1048576) = false := by simpa using hlen
  simp only [l_FnFloNew, hlen', h6, bd_s, i_FloNew_e, s_FloNew_e, cnd_f]
  unfold floNew
  by_cases hc : (jobOk j && (a.length : Int) == j.1 && !(a.any fun l => !logOk l)) = true
  · simp only [hc, if_true]
    simp only [Bool.and_eq_true, beq_iff_eq, Bool.not_eq_true', List.any_eq_false] at hc
    obtain ⟨⟨hj, ha⟩, hl⟩ := hc
    have hl' : ∀ l, l ∈ a → logOk l = true := fun l h => by simpa using hl l h
    obtain ⟨h1, h2⟩ := job_S hj
    have hS' : a.length = 1 ∨ a.length = 2 ∨ a.length = 3 := by omega
    have hk : j.2.1 = ((j.2.1.toNat : Nat) : Int) := by omega
    have e1 : j.1.toNat = a.length := by omega
    rw [e1]
    generalize hT : j.2.1.toNat = T at *
    have hT' : T = 1 ∨ T = 2 := by omega
    have hok := flo0_ok j a hj a.length T ha.symm hS' hk hT' rfl hl'
    have hsm := frFlow_s _ (flo0_sm j a a.length T hS' hT' rfl hl')
    obtain ⟨n, hn1, hn2⟩ := lens_z a hS' hl' j T hok
    have hp : i_FloPanes (flo0 j a a.length T) = some [] := by
      simp only [i_FloPanes, hok, bd_s, Bool.not_true, cnd_f]
      rcases hT' with rfl | rfl <;> simp [it_u, ix, gd, w6_1, w6_2]
    have hq : i_FloLates (flo0 j a a.length T) = some [] := by
      simp only [i_FloLates, hok, bd_s, Bool.not_true, cnd_f]
      rcases hT' with rfl | rfl <;> simp [it_u, ix, gd, w6_1, w6_2]
    have hd : i_FloDone (flo0 j a a.length T) = some false := by
      simp only [i_FloDone, hok, bd_s, cnd_t, i_FloFlow_done, cnd_f]
      obtain ⟨x, r, rfl⟩ : ∃ x r, a = x :: r := by cases a with | nil => simp at hS' | cons x r => exact ⟨x, r, rfl⟩
      have hx := logOk_len (hl' x (by simp))
      have hx2 : 0 < x.length := by omega
      rw [it_u]
      have h3 : (0 : Int) < (r.length : Int) + 1 := by omega
      simp [h3, ix, hx2]
    have hlg := frLogs_s a (by omega) (fun l h => by have := logOk_len (hl' l h); omega)
    simp only [hsm, bd_s, Bool.not_true, cnd_f, hn1, hn2, hok, cnd_t, hp, hq, hd, hlg]
    rcases hT' with rfl | rfl <;> simp [w6_0, hlg]
  · have hc' : (jobOk j && (a.length : Int) == j.1 && !(a.any fun l => !logOk l)) = false := by simpa using hc
    simp only [hc', Bool.false_eq_true, if_false, frFlow_s floZ floZ_sm, floZ_ok, frOk_z, bd_s]
    simp [frOk_z, floZ_ok]
theorem xor_nn {x y : Int} (hx : 0 ≤ x) (hx2 : x < 9223372036854775808) (hy : 0 ≤ y) (hy2 : y < 9223372036854775808) : 0 ≤ ixo .i64 x y := by
  obtain ⟨a, rfl⟩ : ∃ k : Nat, x = k := ⟨x.toNat, by omega⟩
  obtain ⟨b, rfl⟩ : ∃ k : Nat, y = k := ⟨y.toNat, by omega⟩
  have h : (BitVec.ofInt 64 (a : Int) ^^^ BitVec.ofInt 64 (b : Int)).toNat < 2 ^ 63 := by
    rw [BitVec.toNat_xor]
    apply Nat.xor_lt_two_pow <;> simp [BitVec.toNat_ofInt] <;> omega
  have h2 : ixo .i64 (a : Int) (b : Int) = ((BitVec.ofInt 64 (a : Int) ^^^ BitVec.ofInt 64 (b : Int)).toNat : Int) := by
    exact w6_id (n := ((BitVec.ofInt 64 (a : Int) ^^^ BitVec.ofInt 64 (b : Int)).toNat : Int)) (by omega) (by omega)
  rw [h2]; omega
structure Ok (B : Int) (r : l20Rd) : Prop where
  by_ : ∀ x, x ∈ r.1 → 0 ≤ x ∧ x ≤ 255
  len : r.1.length ≤ 2000
  lo : 0 ≤ r.2
  hi : r.2 ≤ B
theorem Ok.mono {B C : Int} {r : l20Rd} (h : Ok B r) (hc : B ≤ C) : Ok C r := ⟨h.by_, h.len, h.lo, by have := h.hi; omega⟩
theorem tm {a n : Int} (h : 0 ≤ a) (hn : 1 ≤ n) : 0 ≤ Int.tmod a n ∧ Int.tmod a n < n := ⟨Int.tmod_nonneg n h, Int.tmod_lt_of_pos a (by omega)⟩
theorem td {a n : Int} (h : 0 ≤ a) (hn : 1 ≤ n) : 0 ≤ Int.tdiv a n ∧ Int.tdiv a n ≤ a := by
  rw [Int.tdiv_eq_ediv_of_nonneg h]
  exact ⟨Int.ediv_nonneg h (by omega), Int.ediv_le_self n h⟩
theorem pick (r : l20Rd) (n B : Int) (h : Ok B r) (hB : B ≤ 1000000) : Tot (fun v => 0 ≤ v.1 ∧ (1 ≤ n → v.1 < n) ∧ Ok (B + 1) v.2) (s_l20Rd_pick (r, n)) := by
  obtain ⟨hb, hl, hlo, hhi⟩ := h
  have w1 : w6 (r.2 + 1) = r.2 + 1 := w6_id (by omega) (by omega)
  have w2 : w6 (r.2 + 1 - 1) = r.2 := by rw [w6_id (by omega) (by omega)]; omega
  have hOk : Ok (B + 1) (r.1, r.2 + 1) := ⟨hb, hl, by simp; omega, by simp; omega⟩
  simp only [s_l20Rd_pick, w1]
  refine Tot.bd (P := fun v => v.1 = (r.1, r.2 + 1) ∧ (v.2 = false → (1 ≤ n ∧ r.1.length ≠ 0))) (Tot.cnd (fun h => Tot.sm ⟨rfl, by simp⟩) (fun h => Tot.sm ⟨rfl, fun hf => ?_⟩)) (fun v hv => ?_)
  · simp at h hf; refine ⟨by omega, ?_⟩; intro he; apply hf; exact List.length_eq_zero_iff.mp he
  obtain ⟨v, c⟩ := v
  obtain ⟨he, hc⟩ := hv
  simp only at he hc
  subst he
  simp only [w2]
  refine Tot.cnd (fun h => Tot.sm ⟨by simp, fun h => by simp; omega, hOk⟩) (fun h => ?_)
  obtain ⟨hn, hne⟩ := hc h
  have hL : (1 : Int) ≤ (r.1.length : Int) := by omega
  refine Tot.cnd (fun h => ?_) (fun h => ?_)
  · simp at h
    refine Tot.bd (Tot.ix (P := fun x => 0 ≤ x ∧ x ≤ 255) hlo h hb) (fun x hx => Tot.gd (by omega) (Tot.sm ?_))
    rw [w6_id (by omega) (by omega)]
    have := tm hx.1 hn
    exact ⟨this.1, fun _ => this.2, hOk⟩
  · have h7 : w6 (r.2 * 7) = r.2 * 7 := w6_id (by omega) (by omega)
    have h8 : w6 (r.2 * 7 + 3) = r.2 * 7 + 3 := w6_id (by omega) (by omega)
    have t1 := tm hlo hL
    have t2 := tm (show 0 ≤ r.2 * 7 + 3 by omega) hL
    have t3 := td hlo hL
    simp only [h7, h8]
    refine Tot.gd (by omega) (Tot.bd (Tot.ix (P := fun x => 0 ≤ x ∧ x ≤ 255) t1.1 t1.2 hb) (fun x hx => Tot.gd (by omega) (Tot.bd (Tot.ix (P := fun x => 0 ≤ x ∧ x ≤ 255) t2.1 t2.2 hb) (fun y hy => Tot.gd (by omega) (Tot.gd (by omega) (Tot.gd (by omega) (Tot.sm ?_)))))))
    have e1 : w6 x = x := w6_id (by omega) (by omega)
    have e2 : w6 y = y := w6_id (by omega) (by omega)
    have e3 : w6 (x * 131) = x * 131 := w6_id (by omega) (by omega)
    have e4 : w6 (y * 1117) = y * 1117 := w6_id (by omega) (by omega)
    have e5 : w6 (x * 131 + y * 1117) = x * 131 + y * 1117 := w6_id (by omega) (by omega)
    have e6 : w6 (r.2 * 29) = r.2 * 29 := w6_id (by omega) (by omega)
    have e7 : w6 (x * 131 + y * 1117 + r.2 * 29) = x * 131 + y * 1117 + r.2 * 29 := w6_id (by omega) (by omega)
    have e8 : w6 (Int.tdiv r.2 r.1.length) = Int.tdiv r.2 r.1.length := w6_id (by omega) (by omega)
    have e9 : w6 (Int.tdiv r.2 r.1.length * 53) = Int.tdiv r.2 r.1.length * 53 := w6_id (by omega) (by omega)
    have e10 : w6 (x * 131 + y * 1117 + r.2 * 29 + Int.tdiv r.2 r.1.length * 53) = x * 131 + y * 1117 + r.2 * 29 + Int.tdiv r.2 r.1.length * 53 := w6_id (by omega) (by omega)
    simp only [e1, e2, e3, e4, e5, e6, e7, e8, e9, e10]
    generalize hA : x * 131 + y * 1117 + r.2 * 29 + Int.tdiv r.2 r.1.length * 53 = A
    have hA0 : 0 ≤ A ∧ A < 1000000000 := by omega
    have t4 := td hA0.1 (show (1 : Int) ≤ 64 by omega)
    have e11 : w6 (Int.tdiv A 64) = Int.tdiv A 64 := w6_id (by omega) (by omega)
    rw [e11]
    have hx := xor_nn (x := A) (y := Int.tdiv A 64) (by omega) (by omega) (by omega) (by omega)
    have := tm hx hn
    exact ⟨this.1, fun _ => this.2, hOk⟩
theorem pickP {r : l20Rd} {B : Int} (n : Int) (h : Ok B r) (hB : B ≤ 100000) (hn : 1 ≤ n) : Tot (fun v => 0 ≤ v.1 ∧ v.1 < n ∧ Ok (B + 1) v.2) (s_l20Rd_pick (r, n)) :=
  (pick r n B h (by omega)).mono fun v hv => ⟨hv.1, hv.2.1 hn, hv.2.2⟩
theorem l20Open_t (l : List Int) (hb : ∀ x, x ∈ l → 0 ≤ x ∧ x ≤ 255) : Tot (Ok 0) (s_l20Open l) := by
  simp only [s_l20Open]
  refine Tot.bd (P := fun v => (∀ x, x ∈ v → 0 ≤ x ∧ x ≤ 255) ∧ v.length ≤ 2000) (Tot.cnd (fun h => ?_) (fun h => ?_)) (fun v hv => Tot.sm ⟨hv.1, hv.2, by simp, by simp⟩)
  · simp at h
    refine Tot.gd (by omega) (Tot.gd (by omega) (Tot.sm ⟨fun x hx => hb x ?_, ?_⟩))
    · simp at hx; exact List.mem_of_mem_take hx
    · simp; omega
  · simp at h; exact Tot.sm ⟨hb, by omega⟩
theorem l20Job_t {r : l20Rd} {B : Int} (h : Ok B r) (hB : B ≤ 90000) : Tot (fun v => jobOk v.1 = true ∧ Ok (B + 14) v.2) (s_l20Job r) := by
  simp only [s_l20Job]
  refine Tot.bd (pickP 3 h (by omega) (by omega)) fun v0 h0 => ?_
  refine Tot.bd (pickP 2 h0.2.2 (by omega) (by omega)) fun v1 h1 => ?_
  refine Tot.bd (pickP 3 h1.2.2 (by omega) (by omega)) fun v2 h2 => ?_
  refine Tot.bd (pickP 6 h2.2.2 (by omega) (by omega)) fun v3 h3 => ?_
  refine Tot.bd (Tot.ixT h3.1 (by simpa using h3.2.1)) fun v4 h4 => ?_
  refine Tot.bd (pickP 5 h3.2.2 (by omega) (by omega)) fun v5 h5 => ?_
  refine Tot.bd (Tot.ixT h5.1 (by simpa using h5.2.1)) fun v6 h6 => ?_
  refine Tot.bd (pickP 4 h5.2.2 (by omega) (by omega)) fun v7 h7 => ?_
  refine Tot.bd (pickP 2 h7.2.2 (by omega) (by omega)) fun v8 h8 => ?_
  refine Tot.bd (pickP 5 h8.2.2 (by omega) (by omega)) fun v9 h9 => ?_
  refine Tot.bd (Tot.ixT h9.1 (by simpa using h9.2.1)) fun v10 h10 => ?_
  refine Tot.bd (pickP 4 h9.2.2 (by omega) (by omega)) fun v11 h11 => ?_
  have b4 : 1 ≤ v4 ∧ v4 ≤ 20 := by simp only [List.mem_cons, List.not_mem_nil, or_false] at h4; omega
  have b6 : 0 ≤ v6 ∧ v6 ≤ 20 := by simp only [List.mem_cons, List.not_mem_nil, or_false] at h6; omega
  have b10 : -9 ≤ v10 ∧ v10 ≤ 9 := by simp only [List.mem_cons, List.not_mem_nil, or_false] at h10; omega
  clear h4 h6 h10
  have hs0 : w6 (1 + v0.1) = 1 + v0.1 := w6_id (by omega) (by omega)
  have hs1 : w6 (1 + v1.1) = 1 + v1.1 := w6_id (by omega) (by omega)
  have hs2 : w6 (1 + v2.1) = 1 + v2.1 := w6_id (by omega) (by omega)
  have hs7 : w6 (1 + v7.1) = 1 + v7.1 := w6_id (by omega) (by omega)
  have hs11 : w6 (1 + v11.1) = 1 + v11.1 := w6_id (by omega) (by omega)
  have k0 : inR (1 + v0.1) 1 3 = true := inR_iff.2 (by omega)
  have k1 : inR (1 + v1.1) 1 2 = true := inR_iff.2 (by omega)
  have k2 : inR (1 + v2.1) 1 3 = true := inR_iff.2 (by omega)
  have k4 : inR v4 1 20 = true := inR_iff.2 b4
  have k6 : inR v6 0 20 = true := inR_iff.2 b6
  have k7 : inR (1 + v7.1) 1 4 = true := inR_iff.2 (by omega)
  have k10 : inR v10 (-9) 9 = true := inR_iff.2 b10
  have k11 : inR (1 + v11.1) 1 4 = true := inR_iff.2 (by omega)
  simp only [hs0, hs1, hs2, hs7, hs11]
  refine Tot.bd (P := fun v => Ok (B + 14) v.1 ∧ jobOk v.2.2 = true) (Tot.cnd (fun hk => ?_) (fun hk => ?_)) fun v18 h18 => by obtain ⟨a, b⟩ := h18; exact Tot.sm (And.intro b a)
  · refine Tot.bd (pickP 4 h11.2.2 (by omega) (by omega)) fun v15 h15 => ?_
    refine Tot.bd (pickP 4 h15.2.2 (by omega) (by omega)) fun v16 h16 => ?_
    have hw : w6 (1 + v16.1) = 1 + v16.1 := w6_id (by omega) (by omega)
    have hw2 : w6 (v4 + v15.1) = v4 + v15.1 := w6_id (by omega) (by omega)
    have ht := td (show 0 ≤ v4 + v15.1 by omega) (show 1 ≤ 1 + v16.1 by omega)
    have hw3 : w6 (Int.tdiv (v4 + v15.1) (1 + v16.1)) = Int.tdiv (v4 + v15.1) (1 + v16.1) := w6_id (by omega) (by omega)
    simp only [hw, hw2, hw3]
    generalize Int.tdiv (v4 + v15.1) (1 + v16.1) = st at *
    have hw4 : w6 (4 * st) = 4 * st := w6_id (by omega) (by omega)
    have ho := h16.2.2.mono (C := B + 14) (by omega)
    simp only [hw4]
    refine Tot.gd (by omega) (Tot.bd (P := fun v => v.1 = v16.2 ∧ v.2.2.1 = (1 + v0.1, 1 + v1.1, 1 + v2.1, v4, st, v6, 1 + v7.1, (v8.1 == (0 : Int)), v10, 1 + v11.1) ∧ (v.2.2.2 = false → 1 ≤ st ∧ st ≤ v4 ∧ v4 ≤ 4 * st)) ?_ fun v17 h17 => ?_)
    · refine Tot.cnd (fun h => Tot.sm ⟨rfl, rfl, by simp⟩) (fun ha => Tot.cnd (fun h => Tot.sm ⟨rfl, rfl, by simp⟩) (fun hb => Tot.sm ⟨rfl, rfl, fun hc => ?_⟩))
      simp only [decide_eq_false_iff_not] at ha hb hc
      omega
    · obtain ⟨r17, j17, j17', b17⟩ := v17
      obtain ⟨h1, h2, h3⟩ := h17
      simp only at h1 h2 h3
      subst h1
      subst h2
      have hu : w6 (v4 + 1) = v4 + 1 := w6_id (by omega) (by omega)
      have hu2 := td (show 0 ≤ v4 + 1 by omega) (show (1 : Int) ≤ 2 by omega)
      have hu3 : w6 ((v4 + 1) / 2) = (v4 + 1) / 2 := w6_id (by omega) (by omega)
      have hu4 : Int.tdiv (v4 + 1) 2 = (v4 + 1) / 2 := Int.tdiv_eq_ediv_of_nonneg (by omega)
      refine Tot.cnd (fun h => Tot.gd (by omega) (Tot.sm ⟨ho, ?_⟩)) (fun h => Tot.sm ⟨ho, ?_⟩)
      · simp only [hu, hu3, hu4, jobOk, k0, k1, k2, k4, k6, k7, k10, k11, hk, Bool.true_and, Bool.and_true, if_true]
        rw [w6_id (n := 4 * ((v4 + 1) / 2)) (by omega) (by omega)]
        simp only [inR, Bool.and_eq_true, decide_eq_true_eq]
        omega
      · have h3 := h3 h
        simp only [jobOk, k0, k1, k2, k4, k6, k7, k10, k11, hk, Bool.true_and, Bool.and_true, if_true, hw4]
        simp only [inR, Bool.and_eq_true, decide_eq_true_eq]
        omega
  · refine Tot.sm ⟨h11.2.2.mono (by omega), ?_⟩
    simp [jobOk, k0, k1, k2, k4, k6, k7, k10, k11, hk]
theorem l20Rec_t {r : l20Rd} {B : Int} (h : Ok B r) (hB : B ≤ 90000) : Tot (fun v => (v.1.1 = 1 ∧ (0 ≤ v.1.2.1 ∧ v.1.2.1 ≤ 60) ∧ (0 ≤ v.1.2.2.1 ∧ v.1.2.2.1 ≤ 3) ∧ (-9 ≤ v.1.2.2.2.1 ∧ v.1.2.2.2.1 ≤ 9) ∧ v.1.2.2.2.2 = 0) ∧ Ok (B + 4) v.2) (s_l20Rec r) := by
  simp only [s_l20Rec]
  refine Tot.bd (pickP 61 h (by omega) (by omega)) fun v0 h0 => ?_
  refine Tot.bd (pickP 6 h0.2.2 (by omega) (by omega)) fun v1 h1 => ?_
  refine Tot.bd (Tot.ixT h1.1 (by simpa using h1.2.1)) fun v2 h2 => ?_
  refine Tot.bd (pickP 4 h1.2.2 (by omega) (by omega)) fun v3 h3 => ?_
  refine Tot.bd (pickP 19 h3.2.2 (by omega) (by omega)) fun v4 h4 => ?_
  have hw : w6 (v4.1 - 9) = v4.1 - 9 := w6_id (by omega) (by omega)
  simp only [List.mem_cons, List.not_mem_nil, or_false] at h2
  refine Tot.sm ⟨⟨rfl, ?_, ?_, ?_, rfl⟩, h4.2.2.mono (by omega)⟩
  · simp only; omega
  · simp only; omega
  · simp only [hw]; omega
def lastM : Int → List ItmItem → Int
  | g, [] => g
  | g, x :: r => lastM (if x.1 == 2 then x.2.1 else g) r
theorem lastM_app : ∀ (l : List ItmItem) (g : Int) (x : ItmItem), lastM g (l ++ [x]) = if x.1 == 2 then x.2.1 else lastM g l
  | [], g, x => rfl
  | y :: l, g, x => by simp only [List.cons_append, lastM]; exact lastM_app l _ x
theorem logGo_app : ∀ (l : List ItmItem) (g : Int) (x : ItmItem), logGo g (l ++ [x]) = (logGo g l && (itmOk x && x.1 != 3 && !(x.1 == 2 && decide (x.2.1 ≤ lastM g l))))
  | [], g, x => by
    simp only [List.nil_append, logGo, lastM]
    cases itmOk x <;> cases h : (x.1 == 3) <;> cases h2 : (x.1 == 2) <;> by_cases h4 : x.2.1 ≤ g <;> simp [bne, h, h4]
  | y :: l, g, x => by
    simp only [List.cons_append, logGo, lastM]
    split
    · simp
    · exact logGo_app l _ x
structure LogI (l : List ItmItem) (m : Int) : Prop where
  go : logGo 0 l = true
  la : lastM 0 l = m
theorem LogI.mark {l : List ItmItem} {m t : Int} (h : LogI l m) (h1 : 1 ≤ t) (h2 : t ≤ 60 ∨ t = 1000) (h3 : m < t) : LogI (l ++ [(2, t, 0, 0, 0)]) t := by
  refine ⟨?_, by rw [lastM_app]; rfl⟩
  have hi : itmOk (2, t, 0, 0, 0) = true := by
    simp [itmOk, inR]; omega
  rw [logGo_app, h.go, h.la, hi]
  simp; omega
theorem LogI.record {l : List ItmItem} {m t k v : Int} (h : LogI l m) (h1 : 0 ≤ t ∧ t ≤ 60) (h2 : 0 ≤ k ∧ k ≤ 3) (h3 : -9 ≤ v ∧ v ≤ 9) : LogI (l ++ [(1, t, k, v, 0)]) m := by
  refine ⟨?_, by rw [lastM_app]; exact h.la⟩
  have hi : itmOk (1, t, k, v, 0) = true := by
    simp [itmOk, inR]; omega
  rw [logGo_app, h.go, h.la, hi]
  simp
theorem LogI.end {l : List ItmItem} {m : Int} (h : LogI l m) (hm : m ≤ 60) (hl : l.length ≤ 39) : logOk (l ++ [(2, 1000, 0, 0, 0)]) = true := by
  have h2 := h.mark (t := 1000) (by omega) (by omega) (by omega)
  have h3 : inR ((l ++ [((2 : Int), (1000 : Int), (0 : Int), (0 : Int), (0 : Int))]).length : Nat) 1 40 = true := inR_iff.2 (by simp; omega)
  simp only [logOk, h2.go, h3, List.getLast?_append]
  simp [isEnd]
theorem l20Log_t {r : l20Rd} {B : Int} (a1 : Int) (h : Ok B r) (hB : B ≤ 70000) (h0 : 0 ≤ a1) (h1 : a1 ≤ 20) : Tot (fun v => (logOk v.1 = true ∧ (1 ≤ v.1.length ∧ v.1.length ≤ a1 + 1)) ∧ Ok (B + 302) v.2) (s_l20Log (r, a1)) := by
  simp only [s_l20Log]
  refine Tot.bd (pickP 5 h (by omega) (by omega)) fun v0 h0' => ?_
  refine Tot.bd (pickP 6 h0'.2.2 (by omega) (by omega)) fun v1 h1' => ?_
  refine Tot.bd (Tot.ixT h1'.1 (by simpa using h1'.2.1)) fun v2 hv2 => ?_
  have b2 : 0 ≤ v2 ∧ v2 ≤ 12 := by simp only [List.mem_cons, List.not_mem_nil, or_false] at hv2; omega
  clear hv2
  refine Tot.bd (P := fun w => (LogI w.2 (lastM 0 w.2) ∧ lastM 0 w.2 ≤ 60 ∧ w.2.length ≤ a1) ∧ Ok (B + 302) w.1) ?_ fun w hw => ?_
  · refine Tot.iter (fun s : l20Rd × List ItmItem × Int × Int × Int => (0 ≤ s.2.2.2.2 ∧ s.2.2.2.2 ≤ a1 ∧ s.2.1.length ≤ s.2.2.2.2) ∧ Ok (B + 2 + 15 * s.2.2.2.2) s.1 ∧ LogI s.2.1 s.2.2.2.1 ∧ (0 ≤ s.2.2.2.1 ∧ s.2.2.2.1 ≤ 60) ∧ (0 ≤ s.2.2.1 ∧ s.2.2.1 ≤ 5 + 6 * s.2.2.2.2)) (fun s => (a1 - s.2.2.2.2).toNat) (fun s hs => ?_) ?_
    · obtain ⟨rd, l, t, m, i⟩ := s
      obtain ⟨⟨i0, i1, i2⟩, ho, hL, ⟨m0, m1⟩, t0, t1⟩ := hs
      simp only at i0 i1 i2 ho hL m0 m1 t0 t1 ⊢
      refine Tot.cnd (fun hc => ?_) (fun hc => Tot.sm ⟨⟨by rw [hL.la]; exact hL, by rw [hL.la]; exact m1, by simp only; omega⟩, ho.mono (by omega)⟩)
      have hc : i < a1 := by simpa using hc
      refine Tot.bd (pickP 6 ho (by omega) (by omega)) fun v5 h5 => ?_
      refine Tot.bd (pickP 4 h5.2.2 (by omega) (by omega)) fun v6 h6 => ?_
      have w1 : w6 (t + v5.1) = t + v5.1 := w6_id (by omega) (by omega)
      have w2 : w6 (t + v5.1 - v2) = t + v5.1 - v2 := w6_id (by omega) (by omega)
      have w3 : w6 (i + 1) = i + 1 := w6_id (by omega) (by omega)
      simp only [w1, w2, w3]
      refine Tot.bd (P := fun v => v.2.1.length ≤ i + 1 ∧ Ok (B + 2 + 15 * (i + 1)) v.1 ∧ LogI v.2.1 v.2.2 ∧ 0 ≤ v.2.2 ∧ v.2.2 ≤ 60) (Tot.cnd (fun _ => ?_) (fun _ => ?_)) fun v hv => Tot.sm ?_
      · have ho := h6.2.2.mono (C := B + 2 + 15 * (i + 1)) (by omega)
        refine Tot.bd (P := fun v => v.1 = v6.2 ∧ v.2.1 = l ∧ v.2.2 ≤ 60) (Tot.cnd (fun _ => Tot.sm ⟨rfl, rfl, by simp⟩) (fun hc => Tot.sm ⟨rfl, rfl, by simp only [decide_eq_false_iff_not] at hc; simp only; omega⟩)) fun v hv => ?_
        obtain ⟨r7, l7, t7⟩ := v
        obtain ⟨e1, e2, e3⟩ := hv
        simp only at e1 e2 e3
        subst e1
        subst e2
        refine Tot.cnd (fun hg => Tot.gd (by simp; omega) (Tot.sm ⟨by simp; omega, ho, ?_⟩)) (fun _ => Tot.sm ⟨by simp only; omega, ho, hL, m0, m1⟩)
        have hg : t7 > m := by simpa using hg
        have hm : LogI (l7 ++ [(2, t7, 0, 0, 0)]) t7 := hL.mark (by omega) (by omega) hg
        exact ⟨hm, by simp only; omega, e3⟩
      · refine Tot.bd (l20Rec_t h6.2.2 (by omega)) fun v3 h3 => ?_
        refine Tot.bd (pickP 20 h3.2 (by omega) (by omega)) fun v4 h4 => ?_
        refine Tot.bd (pickP 7 h4.2.2 (by omega) (by omega)) fun v5' h5' => ?_
        refine Tot.bd (Tot.ixT h5'.1 (by simpa using h5'.2.1)) fun v6' hv6 => ?_
        have b6 : 0 ≤ v6' ∧ v6' ≤ 20 := by simp only [List.mem_cons, List.not_mem_nil, or_false] at hv6; omega
        clear hv6
        refine Tot.bd (pickP 3 h5'.2.2 (by omega) (by omega)) fun v7 h7 => ?_
        have ho := h7.2.2.mono (C := B + 2 + 15 * (i + 1)) (by omega)
        have w4 : w6 (t + v5.1 - v6') = t + v5.1 - v6' := w6_id (by omega) (by omega)
        simp only [w4]
        obtain ⟨⟨rk, rt, rkey, rv, rn⟩, r3⟩ := v3
        obtain ⟨⟨g1, g2, g3, g4, g5⟩, g6⟩ := h3
        simp only at g1 g2 g3 g4 g5 g6 ⊢
        subst g1
        subst g5
        refine Tot.bd (P := fun v => v.1 = v7.2 ∧ v.2.1 = l ∧ v.2.2.1 = 1 ∧ 0 ≤ v.2.2.2.1 ∧ v.2.2.2.2 = (v7.1, rv, 0)) (Tot.cnd (fun _ => Tot.sm ⟨rfl, rfl, rfl, by simp, rfl⟩) (fun hc => Tot.sm ⟨rfl, rfl, rfl, by simp at hc; simp; omega, rfl⟩)) fun v hv => ?_
        obtain ⟨r8, l8, k8, t8, s8⟩ := v
        obtain ⟨e1, e2, e3, e4, e5⟩ := hv
        simp only at e1 e2 e3 e4 e5
        subst e1
        subst e2
        subst e3
        subst e5
        refine Tot.bd (P := fun v => v.1 = v7.2 ∧ v.2.1 = l8 ∧ v.2.2.1 = 1 ∧ (0 ≤ v.2.2.2.1 ∧ v.2.2.2.1 ≤ 60) ∧ v.2.2.2.2 = (v7.1, rv, 0)) (Tot.cnd (fun _ => Tot.sm ⟨rfl, rfl, rfl, by simp, rfl⟩) (fun hc => Tot.sm ⟨rfl, rfl, rfl, by simp at hc; simp; omega, rfl⟩)) fun v hv => ?_
        obtain ⟨r9, l9, k9, t9, s9⟩ := v
        obtain ⟨e1, e2, e3, e6, e5⟩ := hv
        simp only at e1 e2 e3 e6 e5
        subst e1
        subst e2
        subst e3
        subst e5
        refine Tot.gd (by simp; omega) (Tot.sm ⟨by simp; omega, ho, ?_⟩)
        have hm : LogI (l9 ++ [(1, t9, v7.1, rv, 0)]) m := hL.record e6 (by omega) g4
        exact ⟨hm, m0, m1⟩
      · obtain ⟨c1, c2, c3, c4, c5⟩ := hv
        refine ⟨⟨⟨by simp only; omega, by simp only; omega, c1⟩, c2, c3, ⟨c4, c5⟩, by simp only; omega, by simp only; omega⟩, ?_⟩
        show (a1 - (i + 1)).toNat < (a1 - i).toNat
        omega
    · exact ⟨⟨by simp, h0, by simp⟩, h1'.2.2.mono (by simp; omega), ⟨rfl, rfl⟩, ⟨by simp, by simp⟩, by simp; omega, by simp; omega⟩
  · obtain ⟨⟨c1, c2, c3⟩, c4⟩ := hw
    refine Tot.gd (by simp; omega) (Tot.sm ⟨⟨c1.end c2 (by omega), ?_, ?_⟩, c4⟩)
    · simp
    · simp; omega
theorem l21Logs_t {r : l20Rd} {B : Int} (a1 : JobJob) (h : Ok B r) (hB : B ≤ 50000) (h0 : 1 ≤ a1.1) (h1 : a1.1 ≤ 3) : Tot (fun v => (v.1.length = a1.1 ∧ (∀ l, l ∈ v.1 → logOk l = true ∧ l.length ≤ 15)) ∧ Ok (B + 1000) v.2) (s_l21Logs (r, a1)) := by
  simp only [s_l21Logs]
  refine Tot.bd (P := fun w => (w.2.length = a1.1 ∧ (∀ l, l ∈ w.2 → logOk l = true ∧ l.length ≤ 15)) ∧ Ok (B + 1000) w.1) ?_ fun w hw => Tot.sm hw
  refine Tot.iter (fun s : l20Rd × JobJob × List (List ItmItem) × Int => s.2.1 = a1 ∧ (0 ≤ s.2.2.2 ∧ s.2.2.2 ≤ a1.1 ∧ s.2.2.1.length = s.2.2.2) ∧ Ok (B + 310 * s.2.2.2) s.1 ∧ (∀ l, l ∈ s.2.2.1 → logOk l = true ∧ l.length ≤ 15)) (fun s => (a1.1 - s.2.2.2).toNat) (fun s hs => ?_) ?_
  · obtain ⟨rd, j, ls, i⟩ := s
    obtain ⟨e, ⟨i0, i1, i2⟩, ho, hl⟩ := hs
    simp only at e i0 i1 i2 ho hl ⊢
    subst e
    refine Tot.cnd (fun hc => ?_) (fun hc => Tot.sm ⟨⟨?_, hl⟩, ho.mono (by omega)⟩)
    · have hc : i < j.1 := by simpa using hc
      refine Tot.bd (pickP 14 ho (by omega) (by omega)) fun v2 h2 => ?_
      refine Tot.bd (l20Log_t v2.1 h2.2.2 (by omega) (by omega) (by omega)) fun v3 h3 => ?_
      have w3 : w6 (i + 1) = i + 1 := w6_id (by omega) (by omega)
      rw [w3]
      obtain ⟨⟨g1, g2⟩, g3⟩ := h3
      refine Tot.gd (by omega) (Tot.sm ⟨⟨rfl, ⟨by simp only; omega, by simp only; omega, by simp; omega⟩, g3.mono (by simp only; omega), ?_⟩, ?_⟩)
      · intro l hm
        simp only [List.mem_append, List.mem_singleton] at hm
        rcases hm with hm | hm
        · exact hl l hm
        · subst hm; exact ⟨g1, by omega⟩
      · show (j.1 - (i + 1)).toNat < (j.1 - i).toNat
        omega
    · have hc : ¬ i < j.1 := by simpa using hc
      simp only; omega
  · exact ⟨rfl, ⟨by simp, by simp only; omega, by simp⟩, h.mono (by simp), by simp⟩
theorem l20Item_t {r : l20Rd} {B : Int} (a1 : Int) (ha : 1 ≤ a1) (h : Ok B r) (hB : B ≤ 60000) : Tot (fun v => Ok (B + 20) v.2) (s_l20Item (r, a1)) := by
  simp only [s_l20Item]
  refine Tot.bd (l20Rec_t h (by omega)) fun v0 h0 => ?_
  refine Tot.bd (pickP 4 h0.2 (by omega) (by omega)) fun v1 h1 => ?_
  refine Tot.bd (P := fun v => Ok (B + 6) v.1) (Tot.cnd (fun _ => ?_) (fun _ => Tot.cnd (fun _ => ?_) (fun _ => Tot.sm (h1.2.2.mono (by omega))))) fun v2 h2 => ?_
  · refine Tot.bd (pickP 4 h1.2.2 (by omega) (by omega)) fun v2 h2 => ?_
    exact Tot.bd (Tot.ixT h2.1 (by simpa using h2.2.1)) fun v3 _ => Tot.sm (h2.2.2.mono (by omega))
  · refine Tot.bd (pickP 3 h1.2.2 (by omega) (by omega)) fun v2 h2 => ?_
    exact Tot.bd (Tot.ixT h2.1 (by simpa using h2.2.1)) fun v3 _ => Tot.sm (h2.2.2.mono (by omega))
  refine Tot.bd (pickP a1 h2 (by omega) ha) fun v2 h2 => Tot.cnd (fun _ => Tot.sm (h2.2.2.mono (by omega))) (fun _ => ?_)
  refine Tot.bd (pickP 7 h2.2.2 (by omega) (by omega)) fun v3 h3 => ?_
  refine Tot.bd (Tot.ixT h3.1 (by simpa using h3.2.1)) fun v4 _ => ?_
  refine Tot.bd (pickP 5 h3.2.2 (by omega) (by omega)) fun v5 h5 => ?_
  have ho := h5.2.2.mono (C := B + 20) (by omega)
  refine Tot.bd (P := fun v => Ok (B + 20) v.1) ?_ fun v h => Tot.sm h
  exact Tot.cnd (fun _ => Tot.sm ho) (fun _ => Tot.cnd (fun _ => Tot.sm ho) (fun _ => Tot.cnd (fun _ => Tot.sm ho) (fun _ => Tot.cnd (fun _ => Tot.sm ho) (fun _ => Tot.sm ho))))
theorem l20AnyLog_t {r : l20Rd} {B : Int} (a1 : Int) (ha : 1 ≤ a1) (h : Ok B r) (hB : B ≤ 40000) : Tot (fun v => v.1.length ≤ 41 ∧ Ok (B + 1000) v.2) (s_l20AnyLog (r, a1)) := by
  simp only [s_l20AnyLog]
  refine Tot.bd (pickP 16 h (by omega) (by omega)) fun v0 h0 => ?_
  refine Tot.bd (l20Log_t v0.1 h0.2.2 (by omega) (by omega) (by omega)) fun v1 h1 => ?_
  have hl := h1.1.2
  refine Tot.bd (pickP a1 h1.2 (by omega) ha) fun v3 h3 => Tot.cnd (fun _ => Tot.sm ⟨by simp only; omega, h3.2.2.mono (by omega)⟩) (fun _ => ?_)
  refine Tot.bd (pickP (v1.1.length : Int) h3.2.2 (by omega) (by omega)) fun v4 h4 => ?_
  refine Tot.bd (pickP 5 h4.2.2 (by omega) (by omega)) fun v17 h17 => ?_
  refine Tot.bd (P := fun s => match s with | .inl a => a.2.length ≤ 41 ∧ Ok (B + 1000) a.1 | .inr a => a.2.length ≤ 41 ∧ Ok (B + 1000) a.1) (Tot.cnd (fun _ => ?_) (fun _ => Tot.cnd (fun _ => ?_) (fun _ => Tot.cnd (fun _ => ?_) (fun _ => Tot.cnd (fun _ => ?_) (fun _ => ?_))))) fun s hs => ?_
  · refine Tot.bd (l20Item_t 2 (by omega) h17.2.2 (by omega)) fun v18 h18 => ?_
    refine Tot.bd (Tot.ixT h4.1 h4.2.1) fun v19 _ => Tot.sm ⟨by simp; omega, h18.mono (by omega)⟩
  · rw [w6_id (by omega) (by omega)]
    exact Tot.gd (by omega) (Tot.gd (by omega) (Tot.sm ⟨by simp; omega, h17.2.2.mono (by omega)⟩))
  · refine Tot.bd (l20Item_t 3 (by omega) h17.2.2 (by omega)) fun v18 h18 => ?_
    exact Tot.gd (by simp; omega) (Tot.sm ⟨by simp; omega, h18.mono (by omega)⟩)
  · refine Tot.gd (by omega) (Tot.gd (by omega) (Tot.gd (by simp; omega) ?_))
    refine Tot.bd (pickP 60 h17.2.2 (by omega) (by omega)) fun v21 h21 => ?_
    refine Tot.gd (by simp; omega) (Tot.gd (by omega) (Tot.gd (by omega) (Tot.gd (by simp; omega) (Tot.sm ⟨by simp; omega, h21.2.2.mono (by omega)⟩))))
  · refine Tot.bd (P := fun v => v.2.length ≤ 41 ∧ Ok (B + 1000) v.1) ?_ fun v hv => Tot.sm hv
    refine Tot.iter (fun s : l20Rd × List ItmItem => s.2.length ≤ 41 ∧ Ok (B + 400 + 4 * s.2.length) s.1) (fun s => 41 - s.2.length) (fun s hs => ?_) ⟨by simp only; omega, h17.2.2.mono (by simp only; omega)⟩
    obtain ⟨rd, l⟩ := s
    obtain ⟨i1, ho⟩ := hs
    simp only at i1 ho ⊢
    refine Tot.cnd (fun hc => ?_) (fun hc => Tot.sm ⟨by simp only; omega, ho.mono (by omega)⟩)
    have hc : (l.length : Int) ≤ 40 := by simpa using hc
    refine Tot.bd (l20Rec_t ho (by omega)) fun v0 h0 => ?_
    refine Tot.gd (by simp; omega) (Tot.sm ⟨⟨by simp; omega, h0.2.mono (by simp; omega)⟩, ?_⟩)
    show 41 - ([v0.1] ++ l).length < 41 - l.length
    simp; omega
  · cases s with
    | inl a => exact Tot.sm hs
    | inr a => exact Tot.sm hs
theorem l20AnyJob_t {r : l20Rd} {B : Int} (a1 : Int) (ha : 1 ≤ a1) (h : Ok B r) (hB : B ≤ 40000) : Tot (fun v => Ok (B + 100) v.2) (s_l20AnyJob (r, a1)) := by
  simp only [s_l20AnyJob]
  refine Tot.bd (l20Job_t h (by omega)) fun v0 h0 => ?_
  refine Tot.bd (pickP a1 h0.2 (by omega) ha) fun v2 h2 => Tot.cnd (fun _ => Tot.sm (h2.2.2.mono (by omega))) (fun _ => ?_)
  refine Tot.bd (pickP 8 h2.2.2 (by omega) (by omega)) fun v3 h3 => ?_
  refine Tot.bd (Tot.ixT h3.1 (by simpa using h3.2.1)) fun v4 _ => ?_
  refine Tot.bd (pickP 9 h3.2.2 (by omega) (by omega)) fun v5 h5 => ?_
  have ho := h5.2.2.mono (C := B + 100) (by omega)
  refine Tot.bd (P := fun v => Ok (B + 100) v.1) ?_ fun v h => Tot.sm h
  repeat' (first | exact Tot.sm ho | refine Tot.cnd (fun _ => ?_) (fun _ => ?_))
theorem DrawFloNew_t (l : List Int) (hb : ∀ x, x ∈ l → 0 ≤ x ∧ x ≤ 255) : Tot (fun _ => True) (s_DrawFloNew l) := by
  simp only [s_DrawFloNew]
  refine Tot.bd (l20Open_t l hb) fun v0 h0 => ?_
  refine Tot.bd (l20Job_t h0 (by omega)) fun v1 h1 => ?_
  obtain ⟨hj, ho⟩ := h1
  have hj1 := (job_S hj).1
  refine Tot.bd (l21Logs_t v1.1 ho (by omega) (by omega) (by omega)) fun v2 h2 => ?_
  obtain ⟨⟨hl, hx⟩, ho⟩ := h2
  refine Tot.bd (pickP 8 ho (by omega) (by omega)) fun v8 h8 => ?_
  refine Tot.bd (P := fun _ => True) (Tot.cnd (fun _ => ?_) (fun _ => Tot.cnd (fun _ => ?_) (fun _ => Tot.cnd (fun _ => ?_) (fun _ => ?_)))) fun w hw => ?_
  · refine Tot.bd (l20AnyLog_t 2 (by omega) h8.2.2 (by omega)) fun v9 h9 => ?_
    exact Tot.gd (by omega) (Tot.sm trivial)
  · refine Tot.bd (l20AnyLog_t 1 (by omega) h8.2.2 (by omega)) fun v9 h9 => ?_
    exact Tot.bd (Tot.ixT (by omega) (by omega)) fun v10 _ => Tot.sm trivial
  · exact Tot.bd (l20AnyJob_t 1 (by omega) h8.2.2 (by omega)) fun v9 h9 => Tot.sm trivial
  · exact Tot.sm trivial
  · cases w with
    | inl a => exact Tot.sm trivial
    | inr a => exact Tot.sm trivial
theorem FnFloNew_law (l : List Int) (hb : ∀ x, x ∈ l → 0 ≤ x ∧ x ≤ 255) : l_FnFloNew l = some true := by
  obtain ⟨⟨j, a⟩, h, _⟩ := DrawFloNew_t l hb
  exact FnFloNew_mid j a l h
end Go.Proofs.YtfhkpnnbklojoaaGreatA.AS
