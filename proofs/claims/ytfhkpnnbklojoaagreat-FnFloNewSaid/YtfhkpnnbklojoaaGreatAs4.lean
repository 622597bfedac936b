/- A part of the proof that FnFloNew holds: an abstract machine, typed evaluation, and that both are sound. -/
import Derived.Test.YtfhkpnnbklojoaaGreatAs3
import Derived.Below
set_option linter.unusedVariables false
set_option linter.unusedSimpArgs false
namespace Go.Proofs.YtfhkpnnbklojoaaGreatA.AS
section
variable {P : Program} {G : Fr} {X : Ctx} {F : Nat → List Nat} {σ : St} {a : Act} {acts : List Act} {w : World} {M : Nat → Prop}
theorem put_self (h : SimW G X F σ (a :: acts) w) (t : Nat) : a.put (some t) (a.tmps.getD t undef) = a := by
  have : a.tmps.setIfInBounds t (a.tmps.getD t undef) = a.tmps := by
    apply Array.ext
    · simp
    · intro q h1 h2
      rw [Array.getElem_setIfInBounds]
      split
      · rename_i e; subst e; simp [Array.getD_eq_getD_getElem?, h2]
      · rfl
  show ({ a with tmps := a.tmps.setIfInBounds t (a.tmps.getD t undef) } : Act) = a
  rw [this]
theorem Wk.nilReg {t b k : Nat} (hr : σ.reg t = .r (.one (.vs true k []))) (hb : σ.slot b = .fresh) (ht : t < σ.env.n) : Wk G σ ((σ.setSlot b (.live ⟨0, k, [], []⟩)).put t (.r (.one (.ref b 0 0 0)))) := by
  rintro acts w ⟨X, F, h⟩
  cases acts with
  | nil => cases h.envs
  | cons a acts =>
    have hf' : X.H b = .fresh := by rw [h.hH]; exact hb
    have hs := h.one (w' := w) b (.live ⟨0, k, [], []⟩) none 0 [] (by simp) (fun B' _ => .inl hf') (fun B' e g hg => by simp at hg) (fun B' e => by simp) (Nat.le_refl _) (fun g hg _ => rfl) h.kept
      (fun B' e hX hM => by
        injection e with e; subst e
        exact ⟨by simp, [], RCs.nil, .inl ⟨rfl, 0, by simp, .inl ⟨by simp [Ctx.upd, upd_same], rfl⟩⟩⟩) (fun x hx => (h.not_win hf' x hx).elim)
    have hrr := h.reg t
    rw [hr] at hrr
    have hv : a.tmps.getD t undef = .slice none 0 0 := by
      have hrr : RC w (Mut X F) X (.vs true k []) (a.tmps.getD t undef) [] := hrr
      generalize a.tmps.getD t undef = v at hrr
      generalize hfp : ([] : List Nat) = fp at hrr
      cases hrr with
      | own e hr hk hl hf hc =>
        rcases hr.2 with ⟨rfl, _⟩ | ⟨g, cap, cur, rfl, _⟩
        · rfl
        · simp [Value.ownBlock] at hfp
    have hput := hs.put (d := t) (v := .r (.one (.ref b 0 0 0))) (u := a.tmps.getD t undef) (by rw [hv]; exact newRef (B := ⟨0, k, [], []⟩) (A := none) rfl _ _) ht
    rw [put_self h] at hput
    exact ⟨_, _, hput⟩
theorem Wk.move {t c b n full : Nat} {B : Blk} {l' : List (List PV)} (hr : σ.reg t = .r (.one (.ref c 0 n full))) (hc : σ.slot c = .live B) (hl : B.l.length = full) (hkd : B.kd = 0) (hnf : n ≤ full) (hb : σ.slot b = .fresh) (ht : t < σ.env.n) (hl' : B.l.take n = l') :
    Wk G σ (((σ.setSlot c .dead).setSlot b (.live ⟨0, B.k, [], l'⟩)).put t (.r (.one (.ref b 0 n n)))) := by
  subst hl'
  rintro acts w ⟨X, F, h⟩
  cases acts with
  | nil => cases h.envs
  | cons a acts =>
    have hcX : X.H c = .live B := by rw [h.hH]; exact hc
    have hbX : X.H b = .fresh := by rw [h.hH]; exact hb
    have hcb : c ≠ b := by rintro rfl; rw [hcX] at hbX; cases hbX
    obtain ⟨hk, xs, hcs, hrow⟩ := h.blk c B hcX
    obtain ⟨hll, fps, hfps, hF, hrc⟩ := hcs
    obtain ⟨e, hrow⟩ : ∃ e, w.ownsRow 0 e B.k (.slice ((X.A c).map baseOf) B.l.length (X.C c)) B.l.length xs := by
      rcases hrow with ⟨_, k⟩ | ⟨k, _⟩
      · exact k
      · exact (k hkd).elim
    let B1 : Blk := ⟨0, B.k, [], B.l.take n⟩
    have hB1 : B1.l.length = n := by simp [B1]; omega
    have hfl : (B.l.take n).flatten = B.l.flatten.take (n * B.k) := flatten_take _ hk n
    let F1 : Nat → List Nat := upd F b (fps.take (n * B.k)).flatten
    let X1 : Ctx := ⟨upd (upd X.H c .dead) b (.live B1), upd X.A b (X.A c), upd X.C b (X.C c), X.τ, X.N⟩
    have e1 : X1.H b = .live B1 := by simp [X1, upd]
    have e2 : X1.H c = .dead := by simp [X1, upd, hcb]
    have e3 : ∀ i, i ≠ b → i ≠ c → X1.H i = X.H i := by intro i h1 h2; simp [X1, upd, h1, h2]
    have hOne : ∀ i, i ≠ b → Own X1 F1 i = Own X F i := by intro i hi; simp [Own, X1, F1, upd, hi]
    have hsub : ∀ g, g ∈ (fps.take (n * B.k)).flatten → g ∈ F c := by
      intro g hg
      obtain ⟨f, hfm, hgf⟩ := List.mem_flatten.1 hg
      rw [hF]; exact List.mem_flatten.2 ⟨f, List.mem_of_mem_take hfm, hgf⟩
    have hOb : ∀ g, g ∈ Own X1 F1 b → g ∈ Own X F c := by
      intro g hg
      have : Own X1 F1 b = ((X.A c).map (·.1)).toList ++ (fps.take (n * B.k)).flatten := by simp [Own, X1, F1, upd]
      rw [this] at hg
      rcases List.mem_append.1 hg with k | k
      · exact List.mem_append.2 (.inl k)
      · exact List.mem_append.2 (.inr (hsub g k))
    have hlive : ∀ i B0, X1.H i = .live B0 → (i = b ∧ B0 = B1) ∨ (i ≠ b ∧ i ≠ c ∧ X.H i = .live B0) := by
      intro i B0 hi
      by_cases h1 : i = b
      · subst h1; rw [e1] at hi; injection hi with hi; exact .inl ⟨rfl, hi.symm⟩
      · by_cases h2 : i = c
        · subst h2; rw [e2] at hi; cases hi
        · rw [e3 i h1 h2] at hi; exact .inr ⟨h1, h2, hi⟩
    have hM1 : ∀ g, Mut1 X1 F1 g → Mut1 X F g := by
      rintro g ⟨i, B0, hi, hg⟩
      rcases hlive i B0 hi with ⟨rfl, rfl⟩ | ⟨h1, h2, h3⟩
      · exact ⟨c, B, hcX, hOb g hg⟩
      · rw [hOne i h1] at hg; exact ⟨i, B0, h3, hg⟩
    have hMM : ∀ g, g < w.heap.size → ¬ Mut X F g → ¬ Mut X1 F1 g := fun g _ hn hm => hn (hm.imp (fun k => k) (hM1 g))
    have hX : X.Le X1 := by
      refine ⟨fun i hi => ?_, fun i B0 hi => ?_, rfl⟩
      · by_cases h1 : i = b
        · subst h1; rw [e1] at hi; cases hi
        · by_cases h2 : i = c
          · subst h2; rw [e2] at hi; cases hi
          · rw [e3 i h1 h2] at hi; exact hi
      · rcases hlive i B0 hi with ⟨rfl, rfl⟩ | ⟨h1, h2, h3⟩
        · exact .inl hbX
        · exact .inr ⟨B0, h3, .inr ⟨rfl, rfl, rfl, by simp [X1, upd, h1], by simp [X1, upd, h1]⟩⟩
    have hs1 : SimW G X1 F1 ((σ.setSlot c .dead).setSlot b (.live B1)) (a :: acts) w := by
      refine h.step (fun i => ?_) hX rfl rfl rfl (fun g hg => .inl (hM1 g hg)) (fun g hg => h.lt g (hM1 g hg)) (fun _ _ _ => rfl) h.kept (fun i B0 hi => ?_) (fun i B0 hi => ?_) (fun i i' B0 B2 hi hi' hii g hg hg' => ?_) (fun i x hx => ?_)
      · rw [St.slot_setSlot, St.slot_setSlot]
        by_cases h1 : i = b
        · subst h1; rw [e1, if_pos rfl]
        · rw [if_neg h1]
          by_cases h2 : i = c
          · subst h2; rw [e2, if_pos rfl]
          · rw [if_neg h2, e3 i h1 h2, h.hH]
      · rcases hlive i B0 hi with ⟨rfl, rfl⟩ | ⟨h1, h2, h3⟩
        · refine ⟨fun c0 hc0 => hk c0 (List.mem_of_mem_take hc0), xs.take (n * B.k), ?_, .inl ⟨rfl, e, ?_⟩⟩
          · show RCs w (Mut X1 F1) X1 (B.l.take n).flatten (xs.take (n * B.k)) (F1 i)
            rw [hfl, show F1 i = (fps.take (n * B.k)).flatten by simp [F1, upd]]
            refine ⟨by simp [hll], fps.take (n * B.k), by simp [hfps], rfl, fun q p u f hp hu' hf' => ?_⟩
            rw [List.getElem?_take] at hp hu' hf'
            split at hp
            · rename_i hq
              rw [if_pos hq] at hu' hf'
              exact (hrc q p u f hp hu' hf').frame (fun _ _ => rfl) (fun _ _ _ => rfl) hMM hX
            · cases hp
          · rw [hB1]
            have hA : X1.A i = X.A c := by simp [X1, upd]
            have hC : X1.C i = X.C c := by simp [X1, upd]
            rw [hA, hC]
            have hxl := hrow.1
            refine ⟨by rw [List.length_take, hxl]; exact Nat.min_eq_left (Nat.mul_le_mul_right _ (by omega)), ?_⟩
            rcases hrow.2 with ⟨hv, h0⟩ | ⟨g, cap, cur, hv, r1, r2, r3, r4, r5, r6⟩
            · left
              have : n = 0 := by omega
              subst this
              rw [h0] at hv
              exact ⟨hv, rfl⟩
            · right
              injection hv with v1 v2 v3
              refine ⟨g, cap, cur, by rw [v1, v3], r1, r2, by omega, r4, r5, ?_⟩
              rw [← r6, List.take_take]
              congr 1
              exact (Nat.min_eq_left (Nat.mul_le_mul_right _ (by omega))).symm
        · rw [show F1 i = F i by simp [F1, upd, h1]]
          exact (h.blk i B0 h3).frame (fun _ _ => rfl) (fun _ _ _ => rfl) hMM hX (by simp [X1, upd, h1]) (by simp [X1, upd, h1])
      · rcases hlive i B0 hi with ⟨rfl, rfl⟩ | ⟨h1, h2, h3⟩
        · have : Own X1 F1 i = ((X.A c).map (·.1)).toList ++ (fps.take (n * B.k)).flatten := by simp [Own, X1, F1, upd]
          rw [this]
          have hndF : (((X.A c).map (·.1)).toList ++ fps.flatten).Nodup := by rw [← hF]; exact h.nd c B hcX
          refine hndF.sublist (List.Sublist.append (List.Sublist.refl _) ?_)
          conv => rhs; rw [← List.take_append_drop (n * B.k) fps, List.flatten_append]
          exact List.sublist_append_left _ _
        · rw [hOne i h1]; exact h.nd i B0 h3
      · rcases hlive i B0 hi with ⟨rfl, rfl⟩ | ⟨h1, h2, h3⟩ <;> rcases hlive i' B2 hi' with ⟨rfl, rfl⟩ | ⟨m1, m2, m3⟩
        · exact hii rfl
        · rw [hOne i' m1] at hg'
          exact h.dj c i' B B2 hcX m3 (fun e => m2 e.symm) g (hOb g hg) hg'
        · rw [hOne i h1] at hg
          exact h.dj i c B0 B h3 hcX h2 g hg (hOb g hg')
        · rw [hOne i h1] at hg; rw [hOne i' m1] at hg'
          exact h.dj i i' B0 B2 h3 m3 hii g hg hg'
      · obtain ⟨B0, hB0, k1, k2, k3⟩ := h.win i x hx
        have h1 : i ≠ b := by rintro rfl; rw [hbX] at hB0; cases hB0
        have h2 : i ≠ c := by rintro rfl; rw [hcX] at hB0; injection hB0 with hB0; subst hB0; omega
        exact ⟨B0, by rw [e3 i h1 h2]; exact hB0, k1, by simp [X1, upd, h1, k2], k3⟩
    have hrr := h.reg t
    rw [hr] at hrr
    have hrr : RC w (Mut X F) X (.ref c 0 n full) (a.tmps.getD t undef) [] := hrr
    obtain ⟨h0, _, hlv⟩ := hrr.ref_inv
    obtain ⟨_, h3⟩ := hlv B hcX
    obtain ⟨_, hle, A, cc, hv, hlc, hA0, _⟩ := h3 hl
    obtain ⟨hA, hcc⟩ := hA0 rfl
    have hput := hs1.put (d := t) (v := .r (.one (.ref b 0 n n))) (u := a.tmps.getD t undef) (by
      refine RC.ref (by rw [e1]; simp) (fun B' hB' => ?_) ⟨A, cc, hv⟩
      rw [e1] at hB'; injection hB' with hB'; subst hB'
      refine ⟨by omega, fun _ => ⟨rfl, by omega, A, cc, hv, hlc, fun _ => ⟨?_, ?_⟩, fun _ => ?_⟩⟩
      · rw [hA]; simp [X1, upd]
      · rw [hcc]; simp [X1, upd]
      · rw [hA]; simp only [Nat.zero_mul]
        have : X1.A b = X.A c := by simp [X1, upd]
        rw [this]
        cases X.A c with
        | none => rfl
        | some z => show some (baseOf z) = some ((baseOf z).add 0); rw [show (baseOf z).add 0 = baseOf z by rw [add_baseOf]; rfl]) ht
    rw [put_self h] at hput
    exact ⟨X1, F1, hput⟩
end
def iterN {A B : Type} (f : A → Option (A ⊕ B)) : Nat → A → Option B
  | 0, _ => none
  | n + 1, a => match f a with
    | some (.inl a') => iterN f n a'
    | some (.inr b) => some b
    | none => none
open Classical in
noncomputable def iter {A B : Type} (f : A → Option (A ⊕ B)) (a : A) : Option B :=
  if h : ∃ b n, iterN f n a = some b then some h.choose else none
theorem iter_some {A B : Type} {f : A → Option (A ⊕ B)} {a : A} {b : B} (h : iter f a = some b) : ∃ n, iterN f n a = some b := by
  unfold iter at h
  split at h
  · rename_i hx
    injection h with h; subst h
    exact hx.choose_spec
  · cases h
theorem iterN_det {A B : Type} {f : A → Option (A ⊕ B)} : ∀ {n m : Nat} {a : A} {b c : B}, iterN f n a = some b → iterN f m a = some c → b = c
  | 0, _, _, _, _, h, _ => by cases h
  | _ + 1, 0, _, _, _, _, h => by cases h
  | n + 1, m + 1, a, b, c, h, k => by
    simp only [iterN] at h k
    split at h
    · rename_i a' e; rw [e] at k; exact iterN_det h k
    · rename_i b' e; rw [e] at k; simp only at k; injection h with h; injection k with k; rw [← h, ← k]
    · cases h
theorem iterN_iter {A B : Type} {f : A → Option (A ⊕ B)} {a : A} {b : B} {n : Nat} (h : iterN f n a = some b) : iter f a = some b := by
  unfold iter
  have hx : ∃ b n, iterN f n a = some b := ⟨b, n, h⟩
  rw [dif_pos hx]
  obtain ⟨m, hm⟩ := hx.choose_spec
  exact congrArg some (iterN_det hm h)
theorem iter_eq {A B : Type} (f : A → Option (A ⊕ B)) (a : A) : iter f a = match f a with
    | some (.inl a') => iter f a'
    | some (.inr b) => some b
    | none => none := by
  cases hf : f a with
  | none =>
    cases hi : iter f a with
    | none => rfl
    | some b =>
      obtain ⟨n, hn⟩ := iter_some hi
      cases n with
      | zero => cases hn
      | succ n => simp only [iterN, hf] at hn; cases hn
  | some o =>
    cases o with
    | inr b => exact iterN_iter (n := 1) (by simp only [iterN, hf])
    | inl a' =>
      simp only
      cases hi : iter f a' with
      | some b =>
        obtain ⟨n, hn⟩ := iter_some hi
        exact iterN_iter (n := n + 1) (by simp only [iterN, hf]; exact hn)
      | none =>
        cases hj : iter f a with
        | none => rfl
        | some b =>
          obtain ⟨n, hn⟩ := iter_some hj
          cases n with
          | zero => cases hn
          | succ n =>
            simp only [iterN, hf] at hn
            rw [iterN_iter hn] at hi; cases hi
def cs {A B C : Type} (o : A ⊕ B) (f : A → Option C) (g : B → Option C) : Option C := match o with
  | .inl a => f a
  | .inr b => g b
structure Port where
  T : TPl
  lv : List Nat
  fz : List Nat
inductive TCd where
  | skip
  | reg (ops : List (AOp × Option Ty)) (lv fz : List Nat)
  | dreg (ord : List (List Nat)) (ops : List (AOp × Option Ty)) (lv fz : List Nat)
  | seq (x y : TCd)
  | cond (c : Ix) (x y : TCd)
  | block (i : Nat) (x : TCd)
  | loop (p : Port) (ps : List (Exit × Port)) (x : TCd)
  | join (ps : List (Exit × Port)) (x : TCd)
  | exit (i : Nat)
  | ret
  | bad
def TCd.ac : TCd → AC
  | .skip => .skip
  | .reg ops _ _ => .reg (opsOf ops)
  | .dreg ord ops _ _ => .dreg ord (opsOf ops)
  | .seq x y => .seq x.ac y.ac
  | .cond c x y => .cond c x.ac y.ac
  | .block i x => .block i x.ac
  | .loop _ _ x => .loop x.ac
  | .join _ x => x.ac
  | .exit i => .exit i
  | .ret => .ret
  | .bad => .bad
def TCd.wr : TCd → List Nat
  | .reg ops _ _ => wrOps ops
  | .dreg _ ops _ _ => wrOps ops
  | .seq x y => x.wr ++ y.wr
  | .cond _ x y => x.wr ++ y.wr
  | .block _ x => x.wr
  | .loop _ _ x => x.wr
  | .join _ x => x.wr
  | _ => []
def exKB : Exit → Exit → Bool
  | .normal, .normal => true
  | .ret, .ret => true
  | .exit i, .exit j => Nat.beq i j
  | _, _ => false
theorem exKB_eq {a b : Exit} (h : exKB a b = true) : a = b := by
  cases a <;> cases b <;> first | rfl | (cases h; done) | skip
  exact congrArg Exit.exit (Nat.eq_of_beq_eq_true h)
def fxs (W : List Nat) (r : List (Nat × TV)) : List Nat → List (Nat × TV)
  | [] => []
  | t :: l => match memB t W with
    | true => fxs W r l
    | false => match lookT r t with
      | .un => fxs W r l
      | v => match pureV v with
        | true => (t, v) :: fxs W r l
        | false => fxs W r l
def rsOk (W : List Nat) (r : List (Nat × TV)) : List (Nat × VP) → Bool
  | [] => true
  | (t, _) :: l => (memB t W || !pureV (lookT r t)) && rsOk W r l
def rsOks (W : List Nat) (r : List (Nat × TV)) : List (Exit × Port) → Bool
  | [] => true
  | (_, p) :: l => rsOk W r p.T.rs && rsOks W r l
def hasAll (r : List (Nat × TV)) : List (Nat × TV) → Bool
  | [] => true
  | (t, _) :: l => match lookT r t with
    | .un => false
    | _ => hasAll r l
def mkOs : (ts : List Ty) → List SD → Option (DenOs ts)
  | [], [] => some ()
  | [t], [w] => asD w.1 t w.2
  | t :: u :: ts, w :: r => match asD w.1 t w.2, mkOs (u :: ts) r with
    | some x, some y => some (x, y)
    | _, _ => none
  | _, _ => none
def nilR (n : Nat) (τ : TSt) (t : Nat) : TSt := match lookT τ.r t, Nat.ble (t + 1) n with
  | .r (.one (.c (.nl true k))), true => ⟨(t, .r (.one (.ref τ.h.length τ.g 0))) :: τ.r, setT τ.h τ.h.length (.nb τ.g k), τ.g + 1⟩
  | .r (.one (.part id v lo len n)), true => match lo, tbAt τ.h id with
    | 0, .sl u v' l => match Nat.beq v v' with
      | true => ⟨(t, .r (.one (.ref τ.h.length τ.g len))) :: τ.r, setT (setT τ.h id .dead) τ.h.length (.sl u τ.g (l.take len)), τ.g + 1⟩
      | false => τ
    | _, _ => τ
  | _, _ => τ
def nilRs (n : Nat) : List (Nat × VP) → TSt → TSt
  | [], τ => τ
  | (t, .one (.ref _)) :: r, τ => nilRs n r (nilR n τ t)
  | _ :: r, τ => nilRs n r τ
def exP (n : Nat) (p : Port) (fx : List (Nat × TV)) (τ : TSt) : Option (DenOs p.T.ty) :=
  let τ1 := norm n p.fz p.lv (nilRs n p.T.rs τ)
  match hasAll τ1.r fx with
  | true => match exT p.T τ1 with
    | some l => mkOs p.T.ty l
    | none => none
  | false => none
def enP (p : Port) (fx : List (Nat × TV)) (v : DenOs p.T.ty) : Option TSt :=
  match fiT p.T (outL p.T.ty v) with
  | some τ => some ⟨τ.r ++ fx, τ.h, τ.g⟩
  | none => none
@[reducible] def OutT : List (Exit × Port) → Type
  | [] => Empty
  | [(_, p)] => DenOs p.T.ty
  | (_, p) :: q :: r => DenOs p.T.ty ⊕ OutT (q :: r)
def packs (n : Nat) (W : List Nat) (r : List (Nat × TV)) : (ps : List (Exit × Port)) → Exit → TSt → Option (OutT ps)
  | [], _, _ => none
  | [(e, p)], e', τ => match exKB e' e with
    | true => exP n p (fxs W r p.lv) τ
    | false => none
  | (e, p) :: q :: ps, e', τ => match exKB e' e with
    | true => match exP n p (fxs W r p.lv) τ with
      | some v => some (.inl v)
      | none => none
    | false => match packs n W r (q :: ps) e' τ with
      | some o => some (.inr o)
      | none => none
def unpacks (W : List Nat) (r : List (Nat × TV)) {R : Type} (K : Exit → TSt → Option R) : (ps : List (Exit × Port)) → OutT ps → Option R
  | [], _ => none
  | [(e, p)], v => match enP p (fxs W r p.lv) v with
    | some τ => K e τ
    | none => none
  | (e, p) :: q :: ps, o => cs o (fun v => match enP p (fxs W r p.lv) v with
      | some τ => K e τ
      | none => none) fun o => unpacks W r K (q :: ps) o
noncomputable def trun {P : Program} (tab : List (AEnt P)) (n : Nat) : TCd → TSt → {R : Type} → (Exit → TSt → Option R) → Option R
  | .skip, τ, _, K => K .normal τ
  | .reg ops lv fz, τ, _, K => regT tab ops [] (frzAll n fz τ) fun τ' => K .normal (norm n [] lv τ')
  | .dreg ord ops lv fz, τ, _, K => dregT tab ops [] (frzAll n fz τ) fun τ' ts => match okOrd ord && okPairs (ops.length + 1) ord ts with
    | true => K .normal (norm n [] lv τ')
    | false => none
  | .seq x y, τ, _, K => trun tab n x τ fun e τ' => match e with
    | .normal => trun tab n y τ' K
    | e => K e τ'
  | .cond c x y, τ, _, K => match τ.ev1 c with
    | .c (.b v) => cnd v (trun tab n x τ K) (trun tab n y τ K)
    | _ => none
  | .block i x, τ, _, K => trun tab n x τ fun e τ' => match e with
    | .exit j => match Nat.beq j i with
      | true => K .normal τ'
      | false => K (.exit j) τ'
    | e => K e τ'
  | .loop p ps x, τ, _, K => match rsOk x.wr τ.r p.T.rs && rsOks x.wr τ.r ps with
    | true => match exP n p (fxs x.wr τ.r p.lv) τ with
      | some v0 => bd (iter (fun v => match enP p (fxs x.wr τ.r p.lv) v with
        | some τ1 => trun tab n x τ1 fun e τ' => match e with
          | .normal => match exP n p (fxs x.wr τ.r p.lv) τ' with
            | some v => some (.inl v)
            | none => none
          | e => match packs n x.wr τ.r ps e τ' with
            | some o => some (.inr o)
            | none => none
        | none => none) v0) fun o => unpacks x.wr τ.r K ps o
      | none => none
    | false => none
  | .join ps x, τ, _, K => match rsOks x.wr τ.r ps with
    | true => bd (trun tab n x τ fun e τ' => packs n x.wr τ.r ps e τ') fun o => unpacks x.wr τ.r K ps o
    | false => none
  | .exit i, τ, _, K => K (.exit i) τ
  | .ret, τ, _, K => K .ret τ
  | .bad, _, _, _ => none
def NormW (W : List Nat) (f g : Nat → TV) : Prop := ∀ r, r ∈ W ∨ g r = f r ∨ g r = .un ∨ pureV (f r) = false
theorem NormW.refl (W : List Nat) (f : Nat → TV) : NormW W f f := fun _ => .inr (.inl rfl)
theorem NormW.trans {W : List Nat} {f g h : Nat → TV} (a : NormW W f g) (b : NormW W g h) : NormW W f h := fun r => by
  rcases a r with e | e | e | e
  · exact .inl e
  · rcases b r with k | k | k | k
    · exact .inl k
    · exact .inr (.inl (k.trans e))
    · exact .inr (.inr (.inl k))
    · exact .inr (.inr (.inr (by rw [← e]; exact k)))
  · rcases b r with k | k | k | k
    · exact .inl k
    · exact .inr (.inr (.inl (k.trans e)))
    · exact .inr (.inr (.inl k))
    · rw [e] at k; cases k
  · exact .inr (.inr (.inr e))
theorem NormW.sub {W W' : List Nat} {f g : Nat → TV} (a : NormW W f g) (h : ∀ t ∈ W, t ∈ W') : NormW W' f g := fun r => (a r).imp (h r) id
theorem NormW.stable (W : List Nat) (f : Nat → TV) : Stable W (NormW W f) := fun g d v hd hj r => by
  by_cases e : r = d
  · subst e; exact .inl hd
  · simp only [if_neg e]; exact hj r
theorem memB_mem {x : Nat} : ∀ {l : List Nat}, memB x l = true → x ∈ l
  | y :: r, h => by
    simp only [memB, Bool.or_eq_true] at h
    rcases h with h | h
    · have := Nat.eq_of_beq_eq_true h; subst this; simp
    · simp [memB_mem h]
theorem mkOs_ok : ∀ {ts : List Ty} {l : List SD} {v : DenOs ts}, mkOs ts l = some v → outL ts v = l
  | [], [], v, h => rfl
  | [t], [w], v, h => by
    obtain ⟨u, x⟩ := w
    simp only [mkOs, asD] at h
    split at h
    · rename_i e _; subst e; injection h with h; subst h; rfl
    · cases h
  | t :: u :: ts, w :: r, v, h => by
    simp only [mkOs] at h
    split at h
    · rename_i x y h1 h2
      injection h with h; subst h
      obtain ⟨u', x'⟩ := w
      simp only [asD] at h1
      split at h1
      · rename_i e _; subst e; injection h1 with h1; subst h1
        simp only [outL, mkOs_ok h2]
      · cases h1
    · cases h
  | [], _ :: _, _, h => by cases h
  | [_], [], _, h => by cases h
  | [_], _ :: _ :: _, _, h => by cases h
  | _ :: _ :: _, [], _, h => by cases h
theorem lookT_app : ∀ (a b : List (Nat × TV)) (t : Nat), (t ∈ a.map (·.1) ∧ lookT (a ++ b) t = lookT a t) ∨ (t ∉ a.map (·.1) ∧ lookT (a ++ b) t = lookT b t)
  | [], b, t => .inr ⟨by simp, rfl⟩
  | (s, v) :: a, b, t => by
    simp only [List.cons_append, lookT, List.map_cons, List.mem_cons]
    cases hb : Nat.beq t s with
    | true => exact .inl ⟨.inl (Nat.eq_of_beq_eq_true hb), rfl⟩
    | false =>
      have : t ≠ s := fun e => by subst e; rw [Nat.beq_refl] at hb; cases hb
      simp only [this, false_or]
      exact lookT_app a b t
theorem fxs_mem {W : List Nat} {r : List (Nat × TV)} : ∀ {l : List Nat} {e : Nat × TV}, e ∈ fxs W r l → lookT r e.1 = e.2 ∧ pureV e.2 = true ∧ e.2 ≠ .un ∧ e.1 ∉ W
  | t :: l, e, h => by
    simp only [fxs] at h
    split at h
    · exact fxs_mem h
    · rename_i hm
      split at h
      · exact fxs_mem h
      · rename_i hu
        split at h
        · rename_i hp
          rcases List.mem_cons.1 h with rfl | h
          · refine ⟨rfl, hp, fun e => hu e, fun hw => ?_⟩
            have : memB t W = true := by
              clear hm h hp hu
              induction W with
              | nil => cases hw
              | cons y W ih =>
                simp only [memB, Bool.or_eq_true]
                rcases List.mem_cons.1 hw with rfl | hw
                · exact .inl (Nat.beq_refl _)
                · exact .inr (ih hw)
            rw [hm] at this; cases this
          · exact fxs_mem h
        · exact fxs_mem h
theorem rsOk_ok {W : List Nat} {r : List (Nat × TV)} : ∀ {l : List (Nat × VP)}, rsOk W r l = true → ∀ t ∈ l.map (·.1), t ∈ W ∨ pureV (lookT r t) = false
  | [], _, t, h => by simp at h
  | (s, v) :: l, h, t, ht => by
    simp only [rsOk, Bool.and_eq_true, Bool.or_eq_true, Bool.not_eq_true'] at h
    rcases List.mem_cons.1 ht with rfl | ht
    · exact h.1.imp memB_mem id
    · exact rsOk_ok h.2 t ht
theorem hasAll_ok {r : List (Nat × TV)} : ∀ {l : List (Nat × TV)}, hasAll r l = true → ∀ e ∈ l, lookT r e.1 ≠ .un
  | [], _, e, h => by simp at h
  | (s, v) :: l, h, e, he => by
    simp only [hasAll] at h
    split at h
    · cases h
    · rename_i hu
      rcases List.mem_cons.1 he with rfl | he
      · exact fun e => hu e
      · exact hasAll_ok h e he
theorem pureV_cok {P : Program} {h h' : List TB} {g g' : Nat} {v : TV} (hp : pureV v = true) (hc : ∀ c ∈ v.cs, cok P h g c) : ∀ c ∈ v.cs, cok P h' g' c := by
  have key : ∀ l : List TC, pureCs l = true → (∀ c ∈ l, cok P h g c) → ∀ c ∈ l, cok P h' g' c := by
    intro l
    induction l with
    | nil => intro _ _ c hc; cases hc
    | cons x l ih =>
      intro hp hl c hc
      simp only [pureCs, Bool.and_eq_true] at hp
      rcases List.mem_cons.1 hc with rfl | hc
      · have h1 := hl c (by simp)
        revert h1
        cases c <;> first | (intro h1; exact h1) | (exfalso; exact absurd hp.1 (by simp [pureC]))
      · exact ih hp.2 (fun c hc => hl c (by simp [hc])) c hc
  cases v with
  | r x => exact key _ hp hc
  | tup l =>
    have kr : ∀ l : List TR, pureRs l = true → (∀ x ∈ l, pureCs x.cs = true) := by
      intro l
      induction l with
      | nil => intro _ x hx; cases hx
      | cons y l ih =>
        intro hp x hx
        simp only [pureRs, Bool.and_eq_true] at hp
        rcases List.mem_cons.1 hx with rfl | hx
        · exact hp.1
        · exact ih hp.2 x hx
    intro c hc'
    have hc0 := hc'
    simp only [TV.cs, List.mem_flatMap] at hc'
    obtain ⟨x, hx, hcx⟩ := hc'
    exact key _ (kr l hp x hx) (fun c hc1 => hc c (by simp only [TV.cs, List.mem_flatMap]; exact ⟨x, hx, hc1⟩)) c hcx
  | un => intro c hc; cases hc
section
variable {P : Program} {G : Fr} {n : Nat} {tab : List (AEnt P)}
theorem nilR_ok {τ : TSt} (hI : Inv P τ) (t : Nat) : Inv P (nilR n τ t) ∧ (∀ G, Wk G (img n τ) (img n (nilR n τ t))) ∧ ∀ r, r ≠ t → lookT (nilR n τ t).r r = lookT τ.r r := by
  unfold nilR
  split
  · rename_i k hl hn
    have hn := Nat.le_of_ble_eq_true hn
    have le : HLe τ.h τ.g (setT τ.h τ.h.length (.nb τ.g k)) (τ.g + 1) := by
      refine ⟨Nat.le_succ _, fun z u m hu e => ?_, fun z u m q hu e => ?_⟩
      · rw [tbAt_setT] at e
        by_cases hi : z = τ.h.length
        · rw [if_pos hi] at e
          simp only [vlen, Option.some.injEq, Prod.mk.injEq] at e
          omega
        · rwa [if_neg hi] at e
      · rw [tbAt_setT] at e
        by_cases hi : z = τ.h.length
        · rw [if_pos hi] at e; simp [hinf] at e
        · rwa [if_neg hi] at e
    refine ⟨⟨fun e he c hc => ?_, fun z => ?_⟩, fun G => ?_, fun r hr => ?_⟩
    · rcases List.mem_cons.1 he with rfl | he
      · have : c = .ref τ.h.length τ.g 0 := by simpa [TV.cs, TR.cs] using hc
        subst this
        refine ⟨Nat.lt_succ_self _, fun m hm => ?_⟩
        rw [tbAt_setT, if_pos rfl] at hm
        simp only [vlen, Option.some.injEq, Prod.mk.injEq] at hm
        exact hm.2
      · exact le.cok (hI.regs e he c hc)
    · show bok P _ _ (tbAt (setT τ.h τ.h.length (.nb τ.g k)) z)
      rw [tbAt_setT]
      by_cases hi : z = τ.h.length
      · rw [if_pos hi]; exact Nat.lt_succ_self _
      · rw [if_neg hi]; exact le.bok (hI.blks z)
    · have hreg : (img n τ).reg t = .r (.one (.vs true k [])) := by rw [img_reg, hl]; rfl
      have := Wk.nilReg (G := G) hreg (img_fresh τ.h.length (Nat.le_refl _)) (show t < n by omega)
      have e2 : ((img n τ).setSlot τ.h.length (.live ⟨0, k, [], []⟩)).put t (.r (.one (.ref τ.h.length 0 0 0))) = img n ⟨(t, .r (.one (.ref τ.h.length τ.g 0))) :: τ.r, setT τ.h τ.h.length (.nb τ.g k), τ.g + 1⟩ := by
        show St.mk _ _ (setAt (τ.h.map TB.slot) τ.h.length (TB.nb τ.g k).slot) = _
        rw [setAt_map]; rfl
      rw [e2] at this; exact this
    · simp only [lookT]
      split
      · rename_i e; exact (hr (Nat.eq_of_beq_eq_true e)).elim
      · rfl
  · rename_i id v lo len m hl hn
    have hn := Nat.le_of_ble_eq_true hn
    split
    · rename_i u v' l hB
      split
      · rename_i hv
        have hv := Nat.eq_of_beq_eq_true hv
        subst hv
        have hck : (v < τ.g ∧ ∀ q, vlen (tbAt τ.h id) = some (v, q) → m = q) ∧ 0 + len ≤ m := by
          rcases lookT_mem τ.r t with k | ⟨z, hz, k1, k2⟩
          · rw [hl] at k; cases k
          · refine hI.regs z hz (.part id v 0 len m) ?_
            rw [← k2, hl]; simp [TV.cs, TR.cs]
        have hm : m = l.length := hck.1.2 _ (by rw [hB]; rfl)
        have hlen : len ≤ l.length := by have := hck.2; omega
        have htl : (l.take len).length = len := by simp; omega
        have hlt : id < τ.h.length := lt_of_tb hB (by simp)
        have hat : ∀ z, tbAt (setT (setT τ.h id .dead) τ.h.length (.sl u τ.g (l.take len))) z = if z = τ.h.length then .sl u τ.g (l.take len) else if z = id then .dead else tbAt τ.h z := by
          intro z; rw [tbAt_setT, tbAt_setT]
        have le : HLe τ.h τ.g (setT (setT τ.h id .dead) τ.h.length (.sl u τ.g (l.take len))) (τ.g + 1) := by
          refine ⟨Nat.le_succ _, fun z a q hu e => ?_, fun z a q q' hu e => ?_⟩
          · rw [hat] at e
            split at e
            · simp only [vlen, Option.some.injEq, Prod.mk.injEq] at e; omega
            · split at e
              · cases e
              · exact e
          · rw [hat] at e
            split at e
            · simp [hinf] at e
            · split at e
              · cases e
              · exact e
        refine ⟨⟨fun e he c hc => ?_, fun z => ?_⟩, fun G => ?_, fun r hr => ?_⟩
        · rcases List.mem_cons.1 he with rfl | he
          · have : c = .ref τ.h.length τ.g len := by simpa [TV.cs, TR.cs] using hc
            subst this
            refine ⟨Nat.lt_succ_self _, fun q hq => ?_⟩
            rw [hat, if_pos rfl] at hq
            simp only [vlen, Option.some.injEq, Prod.mk.injEq] at hq
            rw [← hq.2, htl]
          · exact le.cok (hI.regs e he c hc)
        · show bok P _ _ (tbAt (setT (setT τ.h id .dead) τ.h.length (.sl u τ.g (l.take len))) z)
          rw [hat]
          split
          · exact Nat.lt_succ_self _
          · split
            · trivial
            · exact le.bok (hI.blks z)
        · have hreg : (img n τ).reg t = .r (.one (.ref id 0 len m)) := by rw [img_reg, hl]; rfl
          have hslot : (img n τ).slot id = .live ⟨0, u.sz, [], l.map (enc u)⟩ := by rw [img_slot, hB]; rfl
          have := Wk.move (G := G) (b := τ.h.length) hreg hslot (by simp [hm]) rfl (by omega) (img_fresh τ.h.length (Nat.le_refl _)) (show t < n by omega) (l' := (l.take len).map (enc u)) (by simp [List.map_take])
          have e2 : (((img n τ).setSlot id .dead).setSlot τ.h.length (.live ⟨0, u.sz, [], (l.take len).map (enc u)⟩)).put t (.r (.one (.ref τ.h.length 0 len len))) = img n ⟨(t, .r (.one (.ref τ.h.length τ.g len))) :: τ.r, setT (setT τ.h id .dead) τ.h.length (.sl u τ.g (l.take len)), τ.g + 1⟩ := by
            show St.mk _ _ (setAt (setAt (τ.h.map TB.slot) id (TB.dead).slot) τ.h.length (TB.sl u τ.g (l.take len)).slot) = _
            rw [setAt_map, setAt_map]; rfl
          rw [e2] at this; exact this
        · simp only [lookT]
          split
          · rename_i e; exact (hr (Nat.eq_of_beq_eq_true e)).elim
          · rfl
      · exact ⟨hI, fun G => Wk.refl _, fun _ _ => rfl⟩
    · exact ⟨hI, fun G => Wk.refl _, fun _ _ => rfl⟩
  · exact ⟨hI, fun G => Wk.refl _, fun _ _ => rfl⟩
theorem nilRs_ok : ∀ {rs : List (Nat × VP)} {τ : TSt}, Inv P τ → Inv P (nilRs n rs τ) ∧ (∀ G, Wk G (img n τ) (img n (nilRs n rs τ))) ∧ ∀ r, r ∉ rs.map (·.1) → lookT (nilRs n rs τ).r r = lookT τ.r r
  | [], τ, hI => ⟨hI, fun G => Wk.refl _, fun _ _ => rfl⟩
  | (t, v) :: rs, τ, hI => by
    have key : (nilRs n ((t, v) :: rs) τ = nilRs n rs (nilR n τ t)) ∨ nilRs n ((t, v) :: rs) τ = nilRs n rs τ := by
      cases v with
      | one c => cases c <;> first | exact .inl rfl | exact .inr rfl
      | pk t => exact .inr rfl
    rcases key with e | e
    · rw [e]
      obtain ⟨h1, h2, h3⟩ := nilR_ok (n := n) hI t
      obtain ⟨k1, k2, k3⟩ := nilRs_ok (rs := rs) h1
      refine ⟨k1, fun G => (h2 G).trans (k2 G), fun r hr => ?_⟩
      simp only [List.map_cons, List.mem_cons, not_or] at hr
      rw [k3 r hr.2, h3 r hr.1]
    · rw [e]
      obtain ⟨k1, k2, k3⟩ := nilRs_ok (rs := rs) hI
      refine ⟨k1, k2, fun r hr => ?_⟩
      simp only [List.map_cons, List.mem_cons, not_or] at hr
      exact k3 r hr.2
theorem exP_ok {τ τ' : TSt} {W : List Nat} {p : Port} {v : DenOs p.T.ty} (hI : Inv P τ') (hN : NormW W (lookT τ.r) (lookT τ'.r)) (hr : rsOk W τ.r p.T.rs = true) (h : exP n p (fxs W τ.r p.lv) τ' = some v) :
    ∃ τ1, enP p (fxs W τ.r p.lv) v = some τ1 ∧ Inv P τ1 ∧ (∀ G, Wk G (img n τ') (img n τ1)) ∧ NormW W (lookT τ.r) (lookT τ1.r) := by
  unfold exP at h
  simp only at h
  split at h
  · rename_i ha
    split at h
    · rename_i l hx
      have hv := mkOs_ok h
      obtain ⟨n1, n2, n3⟩ := nilRs_ok (n := n) (rs := p.T.rs) hI
      have ht := norm_tidy (n := n) n1 p.fz p.lv
      obtain ⟨_, τ2, f2, i2, s2, r2, k2⟩ := exT_ok ht.inv hx
      have hfx : ∀ e ∈ fxs W τ.r p.lv, lookT (norm n p.fz p.lv (nilRs n p.T.rs τ')).r e.1 = e.2 := by
        intro e he
        obtain ⟨e1, e2, e3, e4⟩ := fxs_mem he
        have hne := hasAll_ok ha e he
        have hnr : e.1 ∉ p.T.rs.map (·.1) := fun hm => by
          rcases rsOk_ok hr e.1 hm with k | k
          · exact e4 k
          · rw [e1, e2] at k; cases k
        have k0 := n3 e.1 hnr
        rcases hN e.1 with k | k | k | k
        · exact (e4 k).elim
        · rcases ht.nr e.1 with q | q | q
          · rw [q, k0, k, e1]
          · exact (hne q).elim
          · rw [k0, k, e1, e2] at q; cases q
        · rcases ht.nr e.1 with q | q | q
          · rw [q, k0, k] at hne; exact (hne rfl).elim
          · exact (hne q).elim
          · rw [k0, k] at q; cases q
        · rw [e1, e2] at k; cases k
      refine ⟨⟨τ2.r ++ fxs W τ.r p.lv, τ2.h, τ2.g⟩, by simp only [enP, hv, f2], ⟨fun e he c hc => ?_, i2.blks⟩, fun G => (n2 G).trans ((ht.wk G).trans ?_), fun t => ?_⟩
      · rcases List.mem_append.1 he with he | he
        · exact i2.regs e he c hc
        · have h1 := hfx e he
          have h2 := (fxs_mem he).2.1
          refine pureV_cok (h := (norm n p.fz p.lv (nilRs n p.T.rs τ')).h) (g := (norm n p.fz p.lv (nilRs n p.T.rs τ')).g) h2 (fun c hc => ?_) c hc
          rcases lookT_mem (norm n p.fz p.lv (nilRs n p.T.rs τ')).r e.1 with k | ⟨z, hz, q1, q2⟩
          · rw [h1] at k; rw [k] at hc; simp [TV.cs] at hc
          · rw [h1] at q2; rw [q2] at hc; exact ht.inv.regs z hz c hc
      · have hh : img n ⟨τ2.r ++ fxs W τ.r p.lv, τ2.h, τ2.g⟩ = { img n (norm n p.fz p.lv (nilRs n p.T.rs τ')) with env := ⟨(img n (norm n p.fz p.lv (nilRs n p.T.rs τ'))).env.n, (τ2.r ++ fxs W τ.r p.lv).map fun e => (e.1, e.2.rv)⟩ } := by
          simp only [img, s2]
        rw [hh]
        refine Wk.regs _ fun e he => ?_
        obtain ⟨z, hz, rfl⟩ := List.mem_map.1 he
        have h0 := img_reg (n := n) (τ := norm n p.fz p.lv (nilRs n p.T.rs τ')) z.1
        refine Eq.trans h0 ?_
        rcases List.mem_append.1 hz with hz | hz
        · exact r2 z hz
        · rw [hfx z hz]
      · show t ∈ W ∨ lookT (τ2.r ++ fxs W τ.r p.lv) t = _ ∨ lookT (τ2.r ++ fxs W τ.r p.lv) t = _ ∨ _
        rcases lookT_app τ2.r (fxs W τ.r p.lv) t with ⟨h1, h2⟩ | ⟨h1, h2⟩
        · rw [k2] at h1
          rcases rsOk_ok hr t h1 with k | k
          · exact .inl k
          · exact .inr (.inr (.inr k))
        · rw [h2]
          rcases lookT_mem (fxs W τ.r p.lv) t with k | ⟨z, hz, q1, q2⟩
          · exact .inr (.inr (.inl k))
          · refine .inr (.inl ?_)
            rw [q2, ← (fxs_mem hz).1, q1]
    · cases h
  · cases h
theorem unpacks_ok {τ τ' : TSt} {W : List Nat} {R : Type} {K : Exit → TSt → Option R} {r : R} (hI : Inv P τ') (hN : NormW W (lookT τ.r) (lookT τ'.r)) {e : Exit} :
    ∀ {ps : List (Exit × Port)} {o : OutT ps}, rsOks W τ.r ps = true → packs n W τ.r ps e τ' = some o → unpacks W τ.r K ps o = some r →
    ∃ τ1, Inv P τ1 ∧ (∀ G, Wk G (img n τ') (img n τ1)) ∧ NormW W (lookT τ.r) (lookT τ1.r) ∧ K e τ1 = some r
  | [], o, _, h, _ => by cases h
  | [(e', p)], o, hr, h, k => by
    simp only [rsOks, Bool.and_eq_true] at hr
    simp only [packs] at h
    split at h
    · rename_i he
      have := exKB_eq he; subst this
      obtain ⟨τ1, h1, h2, h3, h4⟩ := exP_ok hI hN hr.1 h
      simp only [unpacks, h1] at k
      exact ⟨τ1, h2, h3, h4, k⟩
    · cases h
  | (e', p) :: q :: ps, o, hr, h, k => by
    have hr' : rsOk W τ.r p.T.rs = true ∧ rsOks W τ.r (q :: ps) = true := by
      rw [show rsOks W τ.r ((e', p) :: q :: ps) = (rsOk W τ.r p.T.rs && rsOks W τ.r (q :: ps)) from rfl, Bool.and_eq_true] at hr
      exact hr
    simp only [packs] at h
    split at h
    · rename_i he
      have := exKB_eq he; subst this
      split at h
      · rename_i v hv
        injection h with h; subst h
        obtain ⟨τ1, h1, h2, h3, h4⟩ := exP_ok hI hN hr'.1 hv
        simp only [unpacks, cs, h1] at k
        exact ⟨τ1, h2, h3, h4, k⟩
      · cases h
    · split at h
      · rename_i o' ho
        injection h with h; subst h
        simp only [unpacks, cs] at k
        exact unpacks_ok hI hN hr'.2 ho k
      · cases h
theorem regK_mono : ∀ {xs : List AOp} {σ : St} {Q Q' : St → Prop}, (∀ t, Q t → Q' t) → regK P xs σ Q → regK P xs σ Q'
  | [], σ, Q, Q', hk, h => hk _ h
  | x :: xs, σ, Q, Q', hk, h => stepK_mono (fun t ht => regK_mono hk ht) h
theorem TA.post {k : AC} {σ : St} {acts : List Act} {Q : Exit → St → Prop} (h : TA P G acts n k σ fun e σ => ∃ σ', Wk G σ σ' ∧ Q e σ') : TA P G acts n k σ Q := fun c hc a w s =>
  wp_mono (h c hc a w s) fun e a w ⟨σ', ⟨σ'', hw, hq⟩, hs⟩ => ⟨σ'', hq, hw _ _ hs⟩
def Aft (P : Program) (n : Nat) (W : List Nat) (f : Nat → TV) {R : Type} (K : Exit → TSt → Option R) (r : R) (e : Exit) (σ : St) : Prop :=
  ∃ τ', σ = img n τ' ∧ Inv P τ' ∧ NormW W f (lookT τ'.r) ∧ K e τ' = some r
theorem trun_ok (hm : P.follows .mixedOrders = true) : ∀ (x : TCd) {τ : TSt} {R : Type} {K : Exit → TSt → Option R} {r : R}, Inv P τ → trun tab n x τ K = some r → TA P G [] n x.ac (img n τ) (Aft P n x.wr (lookT τ.r) K r)
  | .skip, τ, R, K, r, hI, h => TA.skip ⟨τ, rfl, hI, NormW.refl _ _, h⟩
  | .ret, τ, R, K, r, hI, h => TA.ret ⟨τ, rfl, hI, NormW.refl _ _, h⟩
  | .exit i, τ, R, K, r, hI, h => TA.exit ⟨τ, rfl, hI, NormW.refl _ _, h⟩
  | .bad, τ, R, K, r, hI, h => by cases h
  | .reg ops lv fz, τ, R, K, r, hI, h => by
    simp only [trun] at h
    have h9 := frzAll_tidy (n := n) fz hI
    refine TA.wk (h9.wk G) (TA.post (TA.reg rfl ?_))
    refine regK_mono (fun σ' hq => ?_) (regT_ok (n := n) (NormW.stable _ (lookT τ.r)) (fun t => .inr (h9.nr t)) h9.inv (fun _ _ e => by cases e) h)
    obtain ⟨τ', rfl, h2, h3, h4⟩ := hq
    have ht := norm_tidy (n := n) h2 [] lv
    exact ⟨_, ht.wk G, _, rfl, ht.inv, NormW.trans h3 fun t => .inr (ht.nr t), h4⟩
  | .dreg ord ops lv fz, τ, R, K, r, hI, h => by
    simp only [trun] at h
    have h9 := frzAll_tidy (n := n) fz hI
    have h0 := dregT_ok (n := n) (NormW.stable _ (lookT τ.r)) (fun t => .inr (h9.nr t)) h9.inv (fun _ _ e => by cases e) h
    have hoo : okOrd ord = true := by
      obtain ⟨ts, hq, _⟩ := dreg_text h0
      obtain ⟨τ', _, _, _, h4⟩ := hq
      split at h4
      · rename_i ho
        rw [Bool.and_eq_true] at ho
        exact ho.1
      · cases h4
    refine TA.wk (h9.wk G) (TA.post (TA.dreg (ops.length + 1) hm rfl hoo ?_))
    refine dregK_mono (fun ts hq => ?_) h0
    obtain ⟨τ', h1, h2, h3, h4⟩ := hq
    split at h4
    · rename_i ho
      rw [Bool.and_eq_true] at ho
      have ht := norm_tidy (n := n) h2 [] lv
      exact ⟨ho.2, _, by rw [h1]; exact ht.wk G, _, rfl, ht.inv, NormW.trans h3 fun t => .inr (ht.nr t), h4⟩
    · cases h4
  | .seq x y, τ, R, K, r, hI, h => by
    simp only [trun] at h
    refine TA.seq ((trun_ok hm x hI h).mono fun e σ hq => ?_)
    obtain ⟨τ', rfl, hI', hN, hk⟩ := hq
    have hN' : NormW (TCd.seq x y).wr (lookT τ.r) (lookT τ'.r) := hN.sub fun t ht => List.mem_append_left _ ht
    cases e with
    | normal =>
      refine (trun_ok hm y hI' hk).mono fun e σ hq => ?_
      obtain ⟨τ'', rfl, hI'', hN2, hk⟩ := hq
      exact ⟨τ'', rfl, hI'', hN'.trans (hN2.sub fun t ht => List.mem_append_right _ ht), hk⟩
    | _ => exact ⟨τ', rfl, hI', hN', hk⟩
  | .cond c x y, τ, R, K, r, hI, h => by
    simp only [trun] at h
    split at h
    · rename_i v hv
      obtain ⟨e0, _⟩ := ev1_ok (n := n) hI hv (by simp)
      have hl : ∀ e σ, Aft P n x.wr (lookT τ.r) K r e σ → Aft P n (TCd.cond c x y).wr (lookT τ.r) K r e σ := fun e σ ⟨τ', a, b, c, d⟩ => ⟨τ', a, b, c.sub fun t ht => List.mem_append_left _ ht, d⟩
      have hr : ∀ e σ, Aft P n y.wr (lookT τ.r) K r e σ → Aft P n (TCd.cond c x y).wr (lookT τ.r) K r e σ := fun e σ ⟨τ', a, b, c, d⟩ => ⟨τ', a, b, c.sub fun t ht => List.mem_append_right _ ht, d⟩
      rcases cnd_some h with ⟨rfl, h⟩ | ⟨rfl, h⟩
      · exact TA.cond e0 (fun _ => (trun_ok hm x hI h).mono hl) fun e => by cases e
      · exact TA.cond e0 (fun e => by cases e) fun _ => (trun_ok hm y hI h).mono hr
    · cases h
  | .block i x, τ, R, K, r, hI, h => by
    simp only [trun] at h
    refine TA.block ((trun_ok hm x hI h).mono fun e σ hq => ?_)
    obtain ⟨τ', rfl, hI', hN, hk⟩ := hq
    cases e with
    | exit j =>
      simp only [blk]
      simp only at hk
      split at hk
      · rename_i hb
        rw [if_pos (Nat.eq_of_beq_eq_true hb)]
        exact ⟨τ', rfl, hI', hN, hk⟩
      · rename_i hb
        rw [if_neg fun e => by subst e; rw [Nat.beq_refl] at hb; cases hb]
        exact ⟨τ', rfl, hI', hN, hk⟩
    | _ => exact ⟨τ', rfl, hI', hN, hk⟩
  | .join ps x, τ, R, K, r, hI, h => by
    simp only [trun] at h
    split at h
    · rename_i hr
      obtain ⟨o, ho, h⟩ := bd_some h
      refine TA.post ((trun_ok hm x hI ho).mono fun e σ hq => ?_)
      obtain ⟨τ', rfl, hI', hN, hk⟩ := hq
      obtain ⟨τ1, k1, k2, k3, k4⟩ := unpacks_ok hI' hN hr hk h
      exact ⟨_, k2 G, τ1, rfl, k1, k3, k4⟩
    · cases h
  | .loop p ps x, τ, R, K, r, hI, h => by
    simp only [trun] at h
    split at h
    · rename_i hr
      rw [Bool.and_eq_true] at hr
      split at h
      · rename_i v0 hv0
        obtain ⟨o, ho, h⟩ := bd_some h
        obtain ⟨m, hm0⟩ := iter_some ho
        obtain ⟨τ0, a1, a2, a3, a4⟩ := exP_ok hI (NormW.refl _ _) hr.1 hv0
        refine TA.wk (a3 G) (TA.loop (fun m σ => ∃ v τ1, enP p (fxs x.wr τ.r p.lv) v = some τ1 ∧ σ = img n τ1 ∧ Inv P τ1 ∧ NormW x.wr (lookT τ.r) (lookT τ1.r) ∧ iterN _ m v = some o) ⟨v0, τ0, a1, rfl, a2, a4, hm0⟩ fun m σ hi => ?_)
        obtain ⟨v, τ1, b1, rfl, b2, b3, b4⟩ := hi
        cases m with
        | zero => cases b4
        | succ m =>
          simp only [iterN, b1] at b4
          split at b4
          · rename_i v' hx
            refine TA.post ((trun_ok hm x b2 hx).mono fun e σ hq => ?_)
            obtain ⟨τ', rfl, hI', hN, hk⟩ := hq
            cases e with
            | normal =>
              simp only at hk
              split at hk
              · rename_i v2 hv2
                injection hk with hk; injection hk with hk; subst hk
                obtain ⟨τ2, c1, c2, c3, c4⟩ := exP_ok hI' (b3.trans hN) hr.1 hv2
                exact ⟨_, c3 G, m, Nat.lt_succ_self m, v2, τ2, c1, rfl, c2, c4, b4⟩
              · cases hk
            | _ =>
              simp only at hk
              split at hk
              · injection hk with hk; cases hk
              · cases hk
          · rename_i o' hx
            injection b4 with b4; subst b4
            refine TA.post ((trun_ok hm x b2 hx).mono fun e σ hq => ?_)
            obtain ⟨τ', rfl, hI', hN, hk⟩ := hq
            cases e with
            | normal =>
              simp only at hk
              split at hk
              · injection hk with hk; cases hk
              · cases hk
            | _ =>
              simp only at hk
              split at hk
              · rename_i o2 ho2
                injection hk with hk; injection hk with hk; subst hk
                obtain ⟨τ2, c1, c2, c3, c4⟩ := unpacks_ok hI' (b3.trans hN) hr.2 ho2 h
                exact ⟨_, c2 G, τ2, rfl, c1, c3, c4⟩
              · cases hk
          · cases b4
      · cases h
    · cases h
end
def R1.shr : R1 → R1
  | .one p => .one p.sh
  | .agg l => .agg (l.map PV.sh)
section
variable {P : Program} {w w' : World} {M M' N : Nat → Prop} {τ : Nat → Value}
theorem R1R.shr {x : R1} {u : Value} {f : List Nat} (h : R1R w M (X0 τ M) x u f) (hn : ∀ p ∈ x.cs, NoRef p) (hf : ∀ g ∈ f, ¬ M' g) (hM : ∀ g, g < w.heap.size → ¬ M g → ¬ M' g) : R1R w M' (X0 τ M') x.shr u [] := by
  cases x with
  | one p => exact RC.toRo h (hn p (by simp [R1.cs])) hf hM rfl
  | agg l =>
    obtain ⟨xs, rfl, hc⟩ := h
    exact ⟨xs, rfl, hc.toRo hn hf hM rfl⟩
theorem ResR.shr {res : List R1} {us : List Value} {rf : List (List Nat)} (h : ResR w M τ res us rf) (hf : ∀ g ∈ rf.flatten, ¬ M' g) (hM : ∀ g, g < w.heap.size → ¬ M g → ¬ M' g) : ResR w M' τ (res.map R1.shr) us (rf.map fun _ => []) := by
  induction h with
  | nil => exact .nil
  | @cons x u f xs us fs h hn t ih =>
    refine .cons (h.shr hn (fun g hg => hf g (by simp [hg])) hM) (fun p hp => ?_) (ih fun g hg => hf g (by simp only [List.flatten_cons, List.mem_append]; exact .inr hg))
    cases x with
    | one q =>
      have : p = q.sh := by simpa [R1.shr, R1.cs] using hp
      subst this; exact (hn q (by simp [R1.cs])).sh
    | agg l =>
      obtain ⟨q, hq, rfl⟩ := List.mem_map.1 (show p ∈ l.map PV.sh from hp)
      exact (hn q hq).sh
theorem WinsR.less {args : List Arg} {ws : List (Nat × Nat × Nat)} {fw : List (List Nat)} (h : WinsR w M τ args ws fw) (hM : ∀ g, g < w.heap.size → ¬ M g → ¬ M' g) : WinsR w M' τ args ws fw := by
  induction h with
  | nil => exact .nil
  | v t ih => exact .v ih
  | o t ih => exact .o ih
  | w hc h hn hl hx t ih => exact .w hc (h.map_rc fun p u f hp hg hr => hr.move (hn p hp) (fun _ _ => rfl) (fun _ _ _ => rfl) hM rfl) hn hl hx ih
theorem ConPost.shr {args : List Arg} {res : List R1} {fp : List Nat} {ws : List (Nat × Nat × Nat)} {u : Value} (h : ConPost w w' τ N args res fp ws u) (hN : ∀ g, N g → g < w.heap.size) (hfp : ∀ g ∈ fp, ¬ N g) : ConPost w w' τ N args (res.map R1.shr) fp ws u := by
  obtain ⟨hk, us, rf, fw, e, hr, hw, hnd, hin⟩ := h
  have hnil : (rf.map fun _ => ([] : List Nat)).flatten = [] := by
    clear hr hnd hin e
    induction rf with
    | nil => rfl
    | cons a l ih => simp
  have hsub : ∀ g, g < w'.heap.size → ¬ (N g ∨ g ∈ rf.flatten ++ fw.flatten) → ¬ (N g ∨ g ∈ (rf.map fun _ => ([] : List Nat)).flatten ++ fw.flatten) := fun g _ hn hm => hn (hm.imp id fun k => by rw [hnil] at k; exact List.mem_append_right _ (by simpa using k))
  refine ⟨hk, us, rf.map fun _ => [], fw, e, hr.shr (fun g hg hm => ?_) hsub, hw.less hsub, ?_, fun g hg => hin g ?_⟩
  · rcases hm with hm | hm
    · rcases (hin g (List.mem_append_left _ hg)).1 with k | k
      · exact hfp g k hm
      · have := hN g hm; omega
    · rw [hnil] at hm
      have hm : g ∈ fw.flatten := by simpa using hm
      rw [List.append_assoc] at hnd
      exact (List.nodup_append.1 hnd).2.2 g hg g (List.mem_append_left _ hm) rfl
  · rw [hnil]
    rw [List.append_assoc] at hnd
    simpa using (List.nodup_append.1 hnd).2.1
  · rw [hnil] at hg
    exact List.mem_append_right _ (by simpa using hg)
theorem con_ofS {f : FuncId} {fn : Func} {c : Code} {rv : List ResultVar} {rs : List Rk} {args : List Arg} {res : List R1} {k : AC} {n : Nat} (hf : P.funcs[f]? = some fn) (hb : fn.body = some c) (hr : fn.results = rv.toArray) (hrv : cRess P rv = some rs) (hnt : fn.ntmps = n) (hc : cCode P n c = k) (hn : args.length ≤ n) (hname : (fn.name == "runtime.NumGoroutine") = false)
    (h : ∀ G, TA P G [] n k (entry n args) fun e σ => (e = .normal ∨ e = .ret) ∧ ∃ res', res'.map R1.shr = res ∧ doneK rs args res' σ) : Con P f args res := by
  subst hnt
  refine ⟨⟨fn, hf, hname, by rw [hb]; rfl⟩, ?_⟩
  intro w τ N us fo fw ws ha hnd hws hfp hlt
  have hsim := entry_sim ha hnd (fun g hg => (List.mem_append.1 hg).elim (fun k => .inr k) fun k => .inl (hws g k)) (N1 := N) (fun g hg => .inl hg) hfp hlt fn.ntmps (by have := ha.len.1; omega)
  refine calls_of_wp hf hb (wp_mono (h _ c hc _ _ hsim) fun e a w' hq => ?_)
  obtain ⟨σ', ⟨he, res', hres, hd⟩, hs⟩ := hq
  obtain ⟨h1, v, h2, h3⟩ := leave ha hnd hs hr hrv hd
  have h3 := h3.shr hlt hfp
  rw [hres] at h3
  rcases he with rfl | rfl
  · exact ⟨h1, v, h2, v, rfl, h3⟩
  · exact ⟨h1, v, h2, v, rfl, h3⟩
end
def noSl : Ty → Bool
  | .sl _ => false
  | .pr a b => noSl a && noSl b
  | _ => true
def noSls : List Ty → Bool
  | [] => true
  | t :: r => noSl t && noSls r
def ofS1 (t : Ty) : SC → Option (List (Den t))
  | .sl _ u l => asL u t l
  | .nl _ k => match Nat.beq k t.sz with
    | true => some []
    | false => none
  | _ => none
def ofS : (t : Ty) → List SC → Option (Den t)
  | .int k, l => match l with
    | [.i k' n] => match kindB k k' with
      | true => some n
      | false => none
    | _ => none
  | .bool, l => match l with
    | [.b x] => some x
    | _ => none
  | .str, l => match l with
    | [.s x] => some x
    | _ => none
  | .sl _, _ => none
  | .vw t, l => match l with
    | [x] => ofS1 t x
    | _ => none
  | .pr a b, l => match ofS a (spl a.sz l).1 with
    | some x => match ofS b (spl a.sz l).2 with
      | some y => some (x, y)
      | none => none
    | none => none
theorem ofS1_ok {t : Ty} {x : SC} {v : List (Den t)} (h : ofS1 t x = some v) : x.pv.sh = .vs false t.sz (v.map (enc t)) := by
  unfold ofS1 at h
  split at h
  · obtain ⟨h1, h2⟩ := asL_ok h
    simp only [SC.pv, PV.sh, h1, h2]
  · split at h
    · rename_i hk
      have := Nat.eq_of_beq_eq_true hk
      injection h with h; subst h this; rfl
    · cases h
  · cases h
theorem ofS_ok : ∀ {t : Ty} {l : List SC} {v : Den t}, ofS t l = some v → (l.map SC.pv).map PV.sh = enc t v
  | .int k, l, v, h => by
    unfold ofS at h
    split at h
    · split at h
      · rename_i hk; injection h with h; subst h; rw [← kindB_ok hk]; rfl
      · cases h
    · cases h
  | .bool, l, v, h => by
    unfold ofS at h
    split at h
    · injection h with h; subst h; rfl
    · cases h
  | .str, l, v, h => by
    unfold ofS at h
    split at h
    · injection h with h; subst h; rfl
    · cases h
  | .sl t, l, v, h => by cases h
  | .vw t, l, v, h => by
    unfold ofS at h
    split at h
    · simp only [List.map_cons, List.map_nil, ofS1_ok h, enc]
    · cases h
  | .pr a b, l, v, h => by
    unfold ofS at h
    split at h
    · rename_i x h1
      split at h
      · rename_i y h2
        injection h with h; subst h
        rw [spl_eq] at h1 h2
        have e1 := ofS_ok h1
        have e2 := ofS_ok h2
        simp only [enc, ← e1, ← e2]
        rw [← List.map_append, ← List.map_append, List.take_append_drop]
      · cases h
    · cases h
def ofM (m : Bool) (t : Ty) (l : List SC) : Option (Den t) := match m with
  | true => ofS t l
  | false => ofC true t l
def shL : List SC → List TC
  | [] => []
  | x :: r => .c x.sh :: shL r
def mkTR (t : Ty) (l : List TC) : TR := match t.agg with
  | true => .agg l
  | false => .one (l.headD .un)
def eRegs {P : Program} : Nat → Nat → Nat → List (SM P) → List (Nat × TV)
  | _, _, _, [] => []
  | i, w, b, ⟨.v t, x⟩ :: r => (i, .r (mkTR t (shL (cells t x)))) :: eRegs (i + 1) w b r
  | i, w, b, ⟨.o t, x⟩ :: r => (i, .r (mkTR t (tthaw 0 b ((cells t x).map .c)).1)) :: eRegs (i + 1) w (b + (tthaw 0 b ((cells t x).map .c)).2.length) r
  | i, w, b, ⟨.w t, x⟩ :: r => (i, .r (.one (.vp w 0))) :: eRegs (i + 1) (w + 1) b r
  | i, w, b, ⟨.rp t, x⟩ :: r => (i, .r (.one (.rp (cells t x) 0))) :: eRegs (i + 1) w b r
  | i, w, b, ⟨.f a r', q⟩ :: r => (i, .r (.one (.fv q.f q.m a r' q.p))) :: eRegs (i + 1) w b r
def eWins {P : Program} : List (SM P) → List TB
  | [] => []
  | ⟨.w t, x⟩ :: r => .var true ((cells t x).map .c) :: eWins r
  | _ :: r => eWins r
def eOwn {P : Program} : Nat → List (SM P) → List (Nat × TB)
  | _, [] => []
  | b, ⟨.o t, x⟩ :: r => (tthaw 0 b ((cells t x).map .c)).2 ++ eOwn (b + (tthaw 0 b ((cells t x).map .c)).2.length) r
  | b, _ :: r => eOwn b r
def entT {P : Program} (l : List (SM P)) : TSt :=
  ⟨eRegs 0 0 (eWins l).length l, setTs (eWins l) (eOwn (eWins l).length l), 1⟩
def resT (m : Bool) (τ : TSt) : List Rk → List Ty → Option (List SD × List Nat)
  | [], [] => some ([], [])
  | .t n :: r, t :: ts => match cellsR t (lookT τ.r n) with
    | some cs => match ownL τ cs, resT m τ r ts with
      | some (xs, i), some (l, is) => match ofM m t xs with
        | some v => some (⟨t, v⟩ :: l, i ++ is)
        | none => none
      | _, _ => none
    | none => none
  | .c n k :: r, t :: ts => match lookT τ.r n with
    | .r (.one (.vp id 0)) => match tbAt τ.h id with
      | .var _ cs => match Nat.beq cs.length (k.getD 1), t.agg == k.isSome with
        | true, true => match ownL τ cs, resT m τ r ts with
          | some (xs, i), some (l, is) => match ofM m t xs with
            | some v => some (⟨t, v⟩ :: l, (id :: i) ++ is)
            | none => none
          | _, _ => none
        | _, _ => none
      | _ => none
    | _ => none
  | _, _ => none
def winsT (h : List TB) : Nat → List Ty → Option (List SD)
  | _, [] => some []
  | i, t :: ts => match tbAt h i with
    | .var _ cs => match toSC cs with
      | some xs => match ofC true t xs, winsT h (i + 1) ts with
        | some v, some l => some (⟨t, v⟩ :: l)
        | _, _ => none
      | none => none
    | _ => none
def rkRegs : List Rk → List Nat
  | [] => []
  | .t n :: r => n :: rkRegs r
  | .c n _ :: r => n :: rkRegs r
def geAll (n : Nat) : List Nat → Bool
  | [] => true
  | i :: r => Nat.ble n i && geAll n r
def tres (n : Nat) (rs : List Rk) (s : Sig) (τ : TSt) : Option (DenOs s.outs) :=
  let τ1 := norm n [] (rkRegs rs) τ
  match resT (noSls s.rs) τ1 rs s.rs, winsT τ1.h 0 (winT s.ms) with
  | some (l, ids), some ws => match nodupB ids && geAll (winT s.ms).length ids with
    | true => mkOs s.outs (l ++ ws)
    | false => none
  | _, _ => none
def boxT (n : Nat) (t : Nat) (s : Sig) (τ : TSt) : Option (DenOs s.outs) :=
  let τ1 := norm n [] [t] τ
  match lookT τ1.r t with
  | .r (.one (.vp id 0)) => match tbAt τ1.h id with
    | .var false cs => match (s.outs.headD .bool).flat, toSC cs with
      | true, some xs => match ofC true (s.outs.headD .bool) xs with
        | some v => mkOs s.outs [⟨s.outs.headD .bool, v⟩]
        | none => none
      | _, _ => none
    | _ => none
  | _ => none
def endK {R : Type} (K : TSt → Option R) (e : Exit) (τ : TSt) : Option R := match e with
  | .normal => K τ
  | .ret => K τ
  | _ => none
section
variable {P : Program} {G : Fr} {X : Ctx} {F : Nat → List Nat} {σ : St} {a : Act} {acts : List Act} {w w' : World} {τ : Nat → Value} {N : Nat → Prop}
def doneB (t : Nat) (c : List PV) (σ : St) : Prop :=
  ∃ id k kids, σ.reg t = .r (.one (.ptr id 1 0 0)) ∧ σ.slot id = .live ⟨1, k, kids, [c]⟩ ∧ ∀ p ∈ c, NoRef p ∧ p.free = true
theorem conB_of {f : FuncId} {fn : Func} {cd : Code} {t : Nat} {args : List Arg} {c : List PV} {k : AC} {n : Nat} (hf : P.funcs[f]? = some fn) (hb : fn.body = some cd) (hr : fn.results = [ResultVar.tmp t].toArray) (hnt : fn.ntmps = n) (hc : cCode P n cd = k) (hn : args.length ≤ n) (hname : (fn.name == "runtime.NumGoroutine") = false)
    (h : ∀ G, TA P G [] n k (entry n args) fun e σ => (e = .normal ∨ e = .ret) ∧ ∃ σ', Wk G σ σ' ∧ doneB t c σ') : ConB P f args c := by
  refine ⟨⟨fn, hf, hname, by rw [hb]; rfl⟩, ?_⟩
  intro w τ N us ha hlt
  have hlen := ha.len
  have hsim := entry_sim ha (by simp) (by simp) (N1 := N) (fun g hg => hg) (by simp) hlt fn.ntmps (by rw [hnt]; have := hlen.1; omega)
  have hT := h (frOf w τ N (([] : List (List Nat)).flatten ++ ([] : List (List Nat)).flatten) []) cd hc
  rw [hnt] at hsim
  refine calls_of_wp hf hb (wp_mono (hT _ _ (by rw [hnt]; exact hsim)) fun e a w' hq => ?_)
  obtain ⟨σ1, ⟨he, σ', hw, id, kk, kids, h1, h2, h3⟩, hs1⟩ := hq
  obtain ⟨X, F, hs⟩ := hw _ _ hs1
  have hdef : a.defers = [] := by cases hs.envs with | cons e _ => exact e.defers
  have hid : X.H id = .live ⟨1, kk, kids, [c]⟩ := by rw [hs.hH]; exact h2
  have hrt := hs.reg t
  rw [h1] at hrt
  have hrt : RC w' (Mut X F) X (.ptr id 1 0 0) (a.tmps.getD t undef) [] := hrt
  obtain ⟨ad, _, _, hl⟩ := hrt.ptr_inv
  obtain ⟨_, h5⟩ := hl _ hid
  obtain ⟨_, z, hz, hv⟩ := h5 rfl
  have hv : a.tmps.getD t undef = .pointer (some (baseOf z)) := by
    rw [hv]
    simp only [Nat.zero_mul, Nat.add_zero]
    rw [show (baseOf z).add 0 = baseOf z by rw [add_baseOf]; rfl]
  obtain ⟨xs, hcs, hat⟩ := (hs.blk id _ hid).cells z hz
  have hzo : z.1 ∈ Own X F id := by simp [Own, hz]
  have hzM : Mut1 X F z.1 := ⟨id, _, hid, hzo⟩
  have hz1 : w.heap.size ≤ z.1 := by
    rcases hs.src z.1 hzM with k | ⟨x, hx, _⟩ | k
    · have k : z.1 ∈ ([] : List (List Nat)).flatten ++ ([] : List (List Nat)).flatten := k
      simp at k
    · have hx : x ∈ ([] : List (Nat × Nat × Nat)) := hx
      cases hx
    · exact k
  have e0 : (([c] : List (List PV))).flatten = c := by simp
  rw [e0] at hcs
  have hres : (results fn a.tmps).run P w' = .ok (.pointer (some (baseOf z))) w' := by
    have := results_of (P := P) (fn := fn) (rs := [ResultVar.tmp t]) (us := [.pointer (some (baseOf z))]) (tmps := a.tmps) (w := w') hr (.cons (by
      show Sem.run P (pure (a.tmps.getD t undef)) w' = _
      rw [hv]; rfl) .nil)
    exact this
  have hpost : ∃ (z' : Nat × Nat) (vs : List Value), Ending.returned (.pointer (some (baseOf z))) = .returned (.pointer (some (baseOf z'))) ∧ Kept w w' (· ∈ ([] : List Nat)) [] ∧ CellsAt w' z' vs ∧ RCs w' (fun g => N g ∨ g = z'.1) (X0 τ N) c vs [] ∧ w.heap.size ≤ z'.1 ∧ z'.1 < w'.heap.size := by
    refine ⟨z, xs, rfl, hs.kept, hat, ?_, hz1, hs.lt _ hzM⟩
    obtain ⟨hll, fps, hfl, hFF, hrc⟩ := hcs
    refine RCs.of_nofp hll fun j p u hp hu => ?_
    have hpm := h3 p (List.mem_of_getElem? hp)
    have hj : j < fps.length := by have := (List.getElem?_eq_some_iff.1 hu).1; omega
    have h6 := hrc j p u _ hp hu (List.getElem?_eq_getElem hj)
    rw [h6.fp_nil (fun k l e => by subst e; have := hpm.2; simp [PV.free] at this)] at h6
    refine h6.move hpm.1 (by simp) (fun _ _ _ => rfl) (fun g _ hn hm => hn ?_) hs.hτ.symm
    rcases hm with hm | rfl
    · exact .inl (hs.hN g hm)
    · exact .inr hzM
  rcases he with rfl | rfl
  · exact ⟨hdef, _, hres, hpost⟩
  · exact ⟨hdef, _, hres, hpost⟩
end
section
variable {P : Program} {G : Fr} {n : Nat} {tab : List (AEnt P)} {τ : TSt}
theorem shL_pv : ∀ (l : List SC), (shL l).map TC.pv = (l.map SC.pv).map PV.sh
  | [] => rfl
  | x :: r => by simp only [shL, List.map_cons, TC.pv, SC.sh_pv, shL_pv r]
theorem shL_c : ∀ {l : List SC} {c : TC}, c ∈ shL l → ∃ x, c = .c x
  | x :: r, c, h => by
    rcases List.mem_cons.1 h with rfl | h
    · exact ⟨_, rfl⟩
    · exact shL_c h
theorem sz_one {t : Ty} (h : t.agg = false) : t.sz = 1 := by cases t <;> first | rfl | cases h
theorem mkTR_r1 (t : Ty) (l : List TC) : (mkTR t l).r1 = mkR1 t (l.map TC.pv) := by
  cases ha : t.agg with
  | true => simp only [mkTR, ha, TR.r1, mkR1_agg ha]
  | false => simp only [mkTR, ha, TR.r1, mkR1_one ha, headD_map]
theorem mkTR_cs {t : Ty} {l : List TC} {c : TC} (h : c ∈ (mkTR t l).cs) : c ∈ l ∨ c = .un := by
  unfold mkTR at h
  split at h
  · exact .inl h
  · have h : c = l.headD .un := by simpa [TR.cs] using h
    cases l with
    | nil => exact .inr h
    | cons x r => exact .inl (by rw [h]; simp)
theorem thawR_mk (b : Nat) (t : Ty) (x : Den t) : thawR b (mkR1 t (enc t x)) = (mkTR t (tthaw 0 b ((cells t x).map .c)).1).r1 := by
  have e1 := tthaw_ok 0 b ((cells t x).map .c)
  rw [cells_c] at e1
  rw [mkTR_r1]
  cases ha : t.agg with
  | true => simp only [mkR1_agg ha, thawR, e1]
  | false =>
    obtain ⟨p, hp⟩ : ∃ p, enc t x = [p] := List.length_eq_one_iff.1 (by rw [enc_len, sz_one ha])
    simp only [mkR1_one ha, thawR]
    rw [hp] at e1 ⊢
    simp only [List.headD_cons, e1]
theorem eRegs_ok : ∀ (l : List (SM P)) (wl : List SD) (i w b : Nat), regsOf i w b (argsL l wl) = (eRegs i w b l).map fun e => (e.1, e.2.rv)
  | [], wl, i, w, b => rfl
  | ⟨.v t, x⟩ :: r, wl, i, w, b => by
    simp only [argsL, regsOf, eRegs, List.map_cons, eRegs_ok r, TV.rv, mkTR_r1, shL_pv, cells_pv]
  | ⟨.o t, x⟩ :: r, wl, i, w, b => by
    have e1 := tthaw_ok 0 b ((cells t x).map .c)
    rw [cells_c] at e1
    simp only [argsL, regsOf, eRegs, List.map_cons, thawR_mk, mkR1_cs _ _ (enc_len _ _)]
    rw [eRegs_ok r, e1, List.length_map]; rfl
  | ⟨.w t, x⟩ :: r, wl, i, w, b => by
    simp only [argsL, regsOf, eRegs, List.map_cons, eRegs_ok r]; rfl
  | ⟨.rp t, x⟩ :: r, wl, i, w, b => by
    simp only [argsL, regsOf, eRegs, List.map_cons, eRegs_ok r, TV.rv, TR.r1, TC.pv, cells_pv]
  | ⟨.f a r', q⟩ :: r, wl, i, w, b => by
    simp only [argsL, regsOf, eRegs, List.map_cons, eRegs_ok r]; rfl
theorem eWins_ok : ∀ (l : List (SM P)) (wl : List SD), winBlks (argsL l wl) = (eWins l).map TB.slot
  | [], wl => rfl
  | ⟨.v t, x⟩ :: r, wl => eWins_ok r wl
  | ⟨.o t, x⟩ :: r, wl => eWins_ok r wl
  | ⟨.w t, x⟩ :: r, wl => by
    simp only [argsL, winBlks, eWins, List.map_cons, eWins_ok r, TB.slot, cells_c, List.length_map, cells_len, enc_len, if_true]
  | ⟨.rp t, x⟩ :: r, wl => eWins_ok r wl
  | ⟨.f a r', q⟩ :: r, wl => eWins_ok r wl
theorem eOwn_ok : ∀ (l : List (SM P)) (wl : List SD) (b : Nat), slotsOf b (argsL l wl) = (eOwn b l).map wsl
  | [], wl, b => rfl
  | ⟨.v t, x⟩ :: r, wl, b => eOwn_ok r wl b
  | ⟨.o t, x⟩ :: r, wl, b => by
    have e1 := tthaw_ok 0 b ((cells t x).map .c)
    rw [cells_c] at e1
    simp only [argsL, slotsOf, eOwn, mkR1_cs _ _ (enc_len _ _), List.map_append]
    rw [eOwn_ok r, e1, List.length_map]
  | ⟨.w t, x⟩ :: r, wl, b => eOwn_ok r wl.tail b
  | ⟨.rp t, x⟩ :: r, wl, b => eOwn_ok r wl b
  | ⟨.f a r', q⟩ :: r, wl, b => eOwn_ok r wl b
theorem ent_img (l : List (SM P)) (wl : List SD) : entry n (argsL l wl) = img n (entT l) := by
  unfold entry
  rw [eWins_ok, List.length_map, eRegs_ok, eOwn_ok]
  exact setTs_slots (n := n) (eOwn (eWins l).length l) (eWins l) ((eRegs 0 0 (eWins l).length l).map fun e => (e.1, e.2.rv))
theorem eOwn_ids : ∀ (l : List (SM P)) (b : Nat), (eOwn b l).map (·.1) = List.range' b (eOwn b l).length
  | [], b => rfl
  | ⟨.v t, x⟩ :: r, b => eOwn_ids r b
  | ⟨.o t, x⟩ :: r, b => by
    simp only [eOwn, List.map_append, List.length_append]
    rw [tthaw_ids, eOwn_ids r, ← List.range'_append_1]
  | ⟨.w t, x⟩ :: r, b => eOwn_ids r b
  | ⟨.rp t, x⟩ :: r, b => eOwn_ids r b
  | ⟨.f a r', q⟩ :: r, b => eOwn_ids r b
theorem eOwn_blk : ∀ {l : List (SM P)} {b : Nat} {e : Nat × TB}, e ∈ eOwn b l → (∃ t l, e.2 = .sl t 0 l) ∨ ∃ k, e.2 = .nb 0 k
  | ⟨.v t, x⟩ :: r, b, e, h => eOwn_blk (l := r) h
  | ⟨.o t, x⟩ :: r, b, e, h => by
    rcases List.mem_append.1 h with h | h
    · exact (tthaw_blk h).2
    · exact eOwn_blk h
  | ⟨.w t, x⟩ :: r, b, e, h => eOwn_blk (l := r) h
  | ⟨.rp t, x⟩ :: r, b, e, h => eOwn_blk (l := r) h
  | ⟨.f a r', q⟩ :: r, b, e, h => eOwn_blk (l := r) h
theorem eWins_blk : ∀ {l : List (SM P)} {x : TB}, x ∈ eWins l → ∃ cs : List SC, x = .var true (cs.map .c)
  | ⟨.v t, x⟩ :: r, y, h => eWins_blk (l := r) h
  | ⟨.o t, x⟩ :: r, y, h => eWins_blk (l := r) h
  | ⟨.w t, x⟩ :: r, y, h => by
    rcases List.mem_cons.1 h with rfl | h
    · exact ⟨_, rfl⟩
    · exact eWins_blk h
  | ⟨.rp t, x⟩ :: r, y, h => eWins_blk (l := r) h
  | ⟨.f a r', q⟩ :: r, y, h => eWins_blk (l := r) h
theorem eRegs_cell : ∀ {l : List (SM P)} {i w b : Nat} {e : Nat × TV} {c : TC}, SMOk l → e ∈ eRegs i w b l → c ∈ e.2.cs → (∀ h g, cok P h g c) ∨ ∃ id tb m, c = .ref id 0 m ∧ (id, tb) ∈ eOwn b l ∧ ∀ v m', vlen tb = some (v, m') → m = m'
  | ⟨.v t, x⟩ :: r, i, w, b, e, c, hs, h, hc => by
    rcases List.mem_cons.1 h with rfl | h
    · rcases mkTR_cs hc with k | rfl
      · obtain ⟨y, rfl⟩ := shL_c k; exact .inl fun _ _ => trivial
      · exact .inl fun _ _ => trivial
    · exact eRegs_cell (l := r) hs h hc
  | ⟨.o t, x⟩ :: r, i, w, b, e, c, hs, h, hc => by
    rcases List.mem_cons.1 h with rfl | h
    · rcases mkTR_cs hc with k | rfl
      · rcases tthaw_cell k with k | ⟨id, tb, m, k1, k2, k3⟩
        · obtain ⟨y, _, rfl⟩ := List.mem_map.1 k; exact .inl fun _ _ => trivial
        · exact .inr ⟨id, tb, m, k1, List.mem_append_left _ k2, k3⟩
      · exact .inl fun _ _ => trivial
    · rcases eRegs_cell (l := r) hs h hc with k | ⟨id, tb, m, k1, k2, k3⟩
      · exact .inl k
      · exact .inr ⟨id, tb, m, k1, List.mem_append_right _ k2, k3⟩
  | ⟨.w t, x⟩ :: r, i, w, b, e, c, hs, h, hc => by
    rcases List.mem_cons.1 h with rfl | h
    · have : c = .vp w 0 := by simpa [TV.cs, TR.cs] using hc
      subst this; exact .inl fun _ _ => trivial
    · exact eRegs_cell (l := r) hs h hc
  | ⟨.rp t, x⟩ :: r, i, w, b, e, c, hs, h, hc => by
    rcases List.mem_cons.1 h with rfl | h
    · have : c = .rp (cells t x) 0 := by simpa [TV.cs, TR.cs] using hc
      subst this; exact .inl fun _ _ => trivial
    · exact eRegs_cell (l := r) hs h hc
  | ⟨.f a r', q⟩ :: r, i, w, b, e, c, hs, h, hc => by
    rcases List.mem_cons.1 h with rfl | h
    · have : c = .fv q.f q.m a r' q.p := by simpa [TV.cs, TR.cs] using hc
      subst this; exact .inl fun _ _ => hs.1
    · exact eRegs_cell (l := r) hs.2 h hc
theorem ent_inv (l : List (SM P)) (hs : SMOk l) : Inv P (entT l) where
  regs := fun e he c hc => by
    rcases eRegs_cell hs he hc with k | ⟨id, tb, m, rfl, k2, k3⟩
    · exact k _ _
    · have hnd : ((eOwn (eWins l).length l).map (·.1)).Nodup := by rw [eOwn_ids]; exact List.nodup_range'
      have hg := setTs_get (h := eWins l) hnd k2
      refine ⟨Nat.one_pos, fun m' hm' => ?_⟩
      have hm' : vlen (tbAt (setTs (eWins l) (eOwn (eWins l).length l)) id) = some (0, m') := hm'
      rw [hg] at hm'
      exact k3 _ _ hm'
  blks := fun i => by
    show bok P _ 1 (tbAt (setTs (eWins l) (eOwn (eWins l).length l)) i)
    rcases setTs_or (eOwn (eWins l).length l) (eWins l) i with k | ⟨x, k1, k2⟩
    · rw [k, tbAt_get]
      cases hi : (eWins l)[i]? with
      | none => trivial
      | some b =>
        obtain ⟨cs, rfl⟩ := eWins_blk (List.mem_of_getElem? hi)
        intro c hc
        obtain ⟨y, _, rfl⟩ := List.mem_map.1 hc
        trivial
    · rw [k2]
      rcases eOwn_blk k1 with ⟨t, l', e⟩ | ⟨k, e⟩
      · rw [show x = _ from e]; exact Nat.one_pos
      · rw [show x = _ from e]; exact Nat.one_pos
theorem look_cok (hI : Inv P τ) (t : Nat) : ∀ c ∈ (lookT τ.r t).cs, cok P τ.h τ.g c := by
  intro c hc
  rcases lookT_mem τ.r t with k | ⟨z, hz, k1, k2⟩
  · rw [k] at hc; simp [TV.cs] at hc
  · rw [k2] at hc; exact hI.regs z hz c hc
theorem mkR1_shr (t : Ty) (l : List PV) : (mkR1 t l).shr = mkR1 t (l.map PV.sh) := by
  cases ha : t.agg with
  | true => simp only [mkR1_agg ha, R1.shr]
  | false =>
    simp only [mkR1_one ha, R1.shr]
    cases l <;> rfl
theorem ofM_ok {m : Bool} {t : Ty} {xs : List SC} {v : Den t} (h : ofM m t xs = some v) : match m with
    | true => (xs.map SC.pv).map PV.sh = enc t v
    | false => xs.map SC.pv = enc t v := by
  cases m with
  | true => exact ofS_ok h
  | false => have := ofC_ok h; rw [sho_t] at this; exact this
def ResM (m : Bool) (res : List R1) (l : List SD) : Prop := match m with
  | true => res.map R1.shr = l.map resR
  | false => res = l.map resR
theorem ResM.cons {m : Bool} {res : List R1} {l : List SD} {t : Ty} {xs : List SC} {v : Den t} (h : ResM m res l) (hv : ofM m t xs = some v) : ResM m (mkR1 t (xs.map SC.pv) :: res) (⟨t, v⟩ :: l) := by
  have := ofM_ok hv
  cases m with
  | true =>
    have h : res.map R1.shr = l.map resR := h
    have this : (xs.map SC.pv).map PV.sh = enc t v := this
    show List.map R1.shr (mkR1 t (xs.map SC.pv) :: res) = List.map resR (⟨t, v⟩ :: l)
    simp only [List.map_cons, mkR1_shr, this, h, resR]
  | false =>
    have h : res = l.map resR := h
    have this : xs.map SC.pv = enc t v := this
    show mkR1 t (xs.map SC.pv) :: res = List.map resR (⟨t, v⟩ :: l)
    simp only [List.map_cons, this, h, resR]
theorem ofM_len {m : Bool} {t : Ty} {xs : List SC} {v : Den t} (h : ofM m t xs = some v) : xs.length = t.sz := by
  have := ofM_ok h
  cases m with
  | true =>
    have this : (xs.map SC.pv).map PV.sh = enc t v := this
    have := congrArg List.length this
    simpa [enc_len] using this
  | false =>
    have this : xs.map SC.pv = enc t v := this
    have := congrArg List.length this
    simpa [enc_len] using this
theorem mkR1_nr (t : Ty) (xs : List SC) (hl : xs.length = t.sz) : ∀ q ∈ (mkR1 t (xs.map SC.pv)).cs, NoRef q := by
  cases ha : t.agg with
  | true => rw [mkR1_agg ha]; exact nr_map
  | false =>
    rw [mkR1_one ha]
    intro q hq
    have hq : q = (xs.map SC.pv).headD .un := by simpa [R1.cs] using hq
    subst hq
    cases xs with
    | nil => have := sz_pos t; simp at hl; omega
    | cons x r => exact x.nr
theorem resT_ok (hI : Inv P τ) {m : Bool} : ∀ {rs : List Rk} {ts : List Ty} {l : List SD} {ids : List Nat}, resT m τ rs ts = some (l, ids) → ∃ res, resF (img n τ) rs = some (res, ids) ∧ l.map (·.1) = ts ∧ ResM m res l ∧ ∀ y ∈ res, ∀ q ∈ y.cs, NoRef q
  | [], [], l, ids, h => by
    simp only [resT, Option.some.injEq, Prod.mk.injEq] at h; obtain ⟨rfl, rfl⟩ := h
    exact ⟨[], rfl, rfl, by cases m <;> rfl, by simp⟩
  | .t z :: r, t :: ts, l, ids, h => by
    simp only [resT] at h
    split at h
    · rename_i cs hcs
      split at h
      · rename_i xs i l' is hx hr
        split at h
        · rename_i v hv
          simp only [Option.some.injEq, Prod.mk.injEq] at h; obtain ⟨rfl, rfl⟩ := h
          obtain ⟨res, i1, i2, i3, i4⟩ := resT_ok hI hr
          have hv2 := look_cok hI z
          have hck : ∀ c ∈ cs, cok P τ.h τ.g c := by
            rcases cellsR_ok hcs with ⟨e1, _⟩ | ⟨c, e1, _, e2⟩
            · rw [e1] at hv2; exact hv2
            · subst e2; intro c' hc'; rw [e1] at hv2; exact hv2 c' (by simpa [TV.cs, TR.cs] using hc')
          have ht := ownL_ok (n := n) hI hck hx
          have hreg : (img n τ).reg z = .r (mkR1 t (cs.map TC.pv)) := by
            rw [img_reg]
            rcases cellsR_ok hcs with ⟨e1, ha⟩ | ⟨c, e1, ha, rfl⟩
            · rw [e1, mkR1_agg ha]; rfl
            · rw [e1, mkR1_one ha]; rfl
          have htk : takeR (img n τ) (mkR1 t (cs.map TC.pv)) = some (mkR1 t (xs.map SC.pv), i) := by
            rcases cellsR_ok hcs with ⟨e1, ha⟩ | ⟨c, e1, ha, rfl⟩
            · simp only [mkR1_agg ha, takeR, ht]
            · simp only [mkR1_one ha, List.map_cons, List.map_nil, List.headD_cons, takeR]
              simp only [List.map_cons, List.map_nil, takeL] at ht
              split at ht
              · rename_i q i0 qs is0 h1 h2
                simp only [Option.some.injEq, Prod.mk.injEq] at h2 ht
                obtain ⟨rfl, rfl⟩ := h2
                obtain ⟨ht1, ht2⟩ := ht
                rw [List.append_nil] at ht2
                subst ht2
                simp only [h1, ← ht1, List.headD_cons]
              · cases ht
          refine ⟨mkR1 t (xs.map SC.pv) :: res, ?_, by simp [i2], i3.cons hv, fun y hy => ?_⟩
          · simp only [resF, hreg, htk, i1]
          · rcases List.mem_cons.1 hy with rfl | hy
            · exact mkR1_nr t xs (ofM_len hv)
            · exact i4 y hy
        · cases h
      · cases h
    · cases h
  | .c z k :: r, t :: ts, l, ids, h => by
    simp only [resT] at h
    split at h
    · rename_i id hm
      split at h
      · rename_i w cs hB
        split at h
        · rename_i hlen hag
          have hlen := Nat.eq_of_beq_eq_true hlen
          rw [beq_iff_eq] at hag
          split at h
          · rename_i xs i l' is hx hr
            split at h
            · rename_i v hv
              simp only [Option.some.injEq, Prod.mk.injEq] at h; obtain ⟨rfl, rfl⟩ := h
              obtain ⟨res, i1, i2, i3, i4⟩ := resT_ok hI hr
              have hck : ∀ c ∈ cs, cok P τ.h τ.g c := by
                have := hI.blks id
                rw [hB] at this
                exact this
              have ht := ownL_ok (n := n) hI hck hx
              have hp : (img n τ).ev1 (.t z) = .ptr id 1 0 0 := by
                show (match (img n τ).reg z with | .r (.one p) => p | _ => .un) = _
                rw [img_reg, hm]; rfl
              have hs : (img n τ).slot id = .live ⟨if w then 2 else 1, cs.length, [], [cs.map TC.pv]⟩ := by rw [img_slot, hB]; rfl
              have hmk : mkR k (xs.map SC.pv) = mkR1 t (xs.map SC.pv) := by
                cases k with
                | none => simp only [mkR, mkR1_one (show t.agg = false from hag)]
                | some k => simp only [mkR, mkR1_agg (show t.agg = true from hag)]
              refine ⟨mkR1 t (xs.map SC.pv) :: res, ?_, by simp [i2], i3.cons hv, fun y hy => ?_⟩
              · simp only [resF, hp, hs, List.length_map, if_pos hlen, ht, i1, hmk]
              · rcases List.mem_cons.1 hy with rfl | hy
                · exact mkR1_nr t xs (ofM_len hv)
                · exact i4 y hy
            · cases h
          · cases h
        · cases h
      · cases h
    · cases h
  | [], _ :: _, _, _, h => by cases h
  | .t _ :: _, [], _, _, h => by cases h
  | .c _ _ :: _, [], _, _, h => by cases h
theorem winsT_ok : ∀ {l : List (SM P)} {i : Nat} {ws : List SD}, winsT τ.h i (winT (l.map (·.1))) = some ws → winsK (img n τ) i (argsL l ws) ∧ ws.map (·.1) = winT (l.map (·.1))
  | [], i, ws, h => by
    have h : some [] = some ws := h
    injection h with h; subst h; exact ⟨trivial, rfl⟩
  | ⟨.v t, x⟩ :: r, i, ws, h => winsT_ok (l := r) h
  | ⟨.o t, x⟩ :: r, i, ws, h => winsT_ok (l := r) h
  | ⟨.rp t, x⟩ :: r, i, ws, h => winsT_ok (l := r) h
  | ⟨.f a r', q⟩ :: r, i, ws, h => winsT_ok (l := r) h
  | ⟨.w t, x⟩ :: r, i, ws, h => by
    simp only [List.map_cons, winT, winsT] at h
    split at h
    · rename_i w cs hB
      split at h
      · rename_i xs hxs
        split at h
        · rename_i v l hv hl
          injection h with h; subst h
          obtain ⟨i1, i2⟩ := winsT_ok (l := r) hl
          refine ⟨⟨⟨⟨if w then 2 else 1, cs.length, [], [cs.map TC.pv]⟩, by rw [img_slot, hB]; rfl, ?_, ?_⟩, i1⟩, by simp [winT, i2]⟩
          · show [cs.map TC.pv] = [enc t v]
            rw [toV_ok hxs hv]
          · exact enc_nr t v
        · cases h
      · cases h
    · cases h
theorem inL_ms : ∀ (ms : List PM) (x : DenMs P ms), (inL P ms x).map (·.1) = ms
  | [], _ => rfl
  | [m], _ => rfl
  | m :: m' :: ms, x => by simp only [inL, List.map_cons, inL_ms (m' :: ms) x.2]
theorem geAll_ok {n : Nat} : ∀ {l : List Nat}, geAll n l = true → ∀ i ∈ l, n ≤ i
  | [], _, i, h => by cases h
  | x :: r, h, i, hi => by
    simp only [geAll, Bool.and_eq_true] at h
    rcases List.mem_cons.1 hi with rfl | hi
    · exact Nat.le_of_ble_eq_true h.1
    · exact geAll_ok h.2 i hi
theorem argsL_len : ∀ (l : List (SM P)) (wl : List SD), (argsL l wl).length = l.length
  | [], _ => rfl
  | ⟨.v t, x⟩ :: r, wl => congrArg (· + 1) (argsL_len r wl)
  | ⟨.o t, x⟩ :: r, wl => congrArg (· + 1) (argsL_len r wl)
  | ⟨.rp t, x⟩ :: r, wl => congrArg (· + 1) (argsL_len r wl)
  | ⟨.f a r', q⟩ :: r, wl => congrArg (· + 1) (argsL_len r wl)
  | ⟨.w t, x⟩ :: r, wl => congrArg (· + 1) (argsL_len r wl.tail)
theorem eWins_len : ∀ (l : List (SM P)), (eWins l).length = (winT (l.map (·.1))).length
  | [] => rfl
  | ⟨.v t, x⟩ :: r => eWins_len r
  | ⟨.o t, x⟩ :: r => eWins_len r
  | ⟨.rp t, x⟩ :: r => eWins_len r
  | ⟨.f a r', q⟩ :: r => eWins_len r
  | ⟨.w t, x⟩ :: r => congrArg (· + 1) (eWins_len r)
theorem tres_ok (hI : Inv P τ) {s : Sig} {rs : List Rk} {x : DenMs P s.ms} {y : DenOs s.outs} (h : tres n rs s τ = some y) : ∃ σ' res, Wk G (img n τ) σ' ∧ ResM (noSls s.rs) res ((outL s.outs y).take s.rs.length) ∧ doneK rs (argsL (inL P s.ms x) ((outL s.outs y).drop s.rs.length)) res σ' := by
  unfold tres at h
  simp only at h
  split at h
  · rename_i l ids ws h1 h2
    split at h
    · rename_i hc
      rw [Bool.and_eq_true] at hc
      have ho := mkOs_ok h
      have ht := norm_tidy (n := n) hI [] (rkRegs rs)
      obtain ⟨res, r1, r2, r3, r4⟩ := resT_ok (n := n) ht.inv h1
      have hlen : l.length = s.rs.length := by rw [← r2, List.length_map]
      have htk : (l ++ ws).take s.rs.length = l := by rw [← hlen, List.take_left']; rfl
      have hdp : (l ++ ws).drop s.rs.length = ws := by rw [← hlen, List.drop_left']; rfl
      have hms := inL_ms s.ms x
      have hw := winsT_ok (P := P) (n := n) (τ := norm n [] (rkRegs rs) τ) (l := inL P s.ms x) (i := 0) (ws := ws) (by rw [hms]; exact h2)
      refine ⟨_, res, ht.wk G, by rw [ho, htk]; exact r3, ids, r1, r4, nodupB_ok hc.1, ?_, ?_⟩
      · intro i hi
        have := geAll_ok hc.2 i hi
        rw [eWins_ok, List.length_map, eWins_len, hms]; exact this
      · rw [ho, hdp]; exact hw.1
    · cases h
  · cases h
theorem boxT_ok (hI : Inv P τ) {t : Nat} {s : Sig} {y : DenOs s.outs} (h : boxT n t s τ = some y) : ∃ σ', Wk G (img n τ) σ' ∧ doneB t ((outL s.outs y).flatMap fun w => enc w.1 w.2) σ' := by
  unfold boxT at h
  simp only at h
  split at h
  · rename_i id hl
    split at h
    · rename_i cs hB
      split at h
      · rename_i xs hf hx
        split at h
        · rename_i v hv
          have ho := mkOs_ok h
          have ht := norm_tidy (n := n) hI [] [t]
          have e := toV_ok hx hv
          refine ⟨_, ht.wk G, id, cs.length, [], ?_, ?_, ?_⟩
          · rw [img_reg, hl]; rfl
          · rw [img_slot, hB, ho]
            simp only [TB.slot, List.flatMap_cons, List.flatMap_nil, List.append_nil, e]
            rfl
          · rw [ho]
            simp only [List.flatMap_cons, List.flatMap_nil, List.append_nil]
            exact fun p hp => ⟨enc_nr _ _ p hp, enc_fr _ hf _ p hp⟩
        · cases h
      · cases h
    · cases h
  · cases h
noncomputable def runE (tab : List (AEnt P)) (n : Nat) (s : Sig) (rs : List Rk) (c : TCd) (x : DenMs P s.ms) : Option (DenOs s.outs) :=
  trun tab n c (entT (inL P s.ms x)) (endK (tres n rs s))
noncomputable def mkE (tab : List (AEnt P)) (id n : Nat) (s : Sig) (rs : List Rk) (x : TCd) (hm : P.follows .mixedOrders = true) {fn : Func} {c : Code} {rv : List ResultVar}
    (hf : P.funcs[id]? = some fn) (hb : fn.body = some c) (hr : fn.results = rv.toArray) (hrv : cRess P rv = some rs) (hnt : fn.ntmps = n) (hc : cCode P n c = x.ac) (hn : Nat.ble s.ms.length n = true) (hname : (fn.name == "runtime.NumGoroutine") = false) (hbx : s.box = false) : Ent P s where
  id := id
  f := runE tab n s rs x
  ok := fun v y hsm h => by
    unfold ConE
    split
    · have hlen : (argsL (inL P s.ms v) ((outL s.outs y).drop s.rs.length)).length ≤ n := by
        rw [argsL_len, ← List.length_map, inL_ms]; exact Nat.le_of_ble_eq_true hn
      have key : ∀ G, TA P G [] n x.ac (entry n (argsL (inL P s.ms v) ((outL s.outs y).drop s.rs.length))) fun e σ => (e = .normal ∨ e = .ret) ∧ ∃ res, ResM (noSls s.rs) res ((outL s.outs y).take s.rs.length) ∧ doneK rs (argsL (inL P s.ms v) ((outL s.outs y).drop s.rs.length)) res σ := by
        intro G
        rw [ent_img]
        refine TA.post ((trun_ok hm x (ent_inv _ hsm) h).mono fun e σ hq => ?_)
        obtain ⟨τ', rfl, hI', _, hk⟩ := hq
        cases e with
        | normal =>
          obtain ⟨σ', res, h1, h2, h3⟩ := tres_ok (G := G) (x := v) hI' hk
          exact ⟨σ', h1, .inl rfl, res, h2, h3⟩
        | ret =>
          obtain ⟨σ', res, h1, h2, h3⟩ := tres_ok (G := G) (x := v) hI' hk
          exact ⟨σ', h1, .inr rfl, res, h2, h3⟩
        | _ => cases hk
      cases hns : noSls s.rs with
      | true =>
        refine con_ofS hf hb hr hrv hnt hc hlen hname fun G => (key G).mono fun e σ hq => ?_
        obtain ⟨he, res, h1, h2⟩ := hq
        rw [hns] at h1
        exact ⟨he, res, h1, h2⟩
      | false =>
        refine con_ofA hf hb hr hrv hnt hc hlen hname fun G => (key G).mono fun e σ hq => ?_
        obtain ⟨he, res, h1, h2⟩ := hq
        rw [hns] at h1
        have h1 : res = _ := h1
        rw [← h1]
        exact ⟨he, h2⟩
    · rename_i hbx'; rw [hbx] at hbx'; cases hbx'
noncomputable def runEB (tab : List (AEnt P)) (n : Nat) (s : Sig) (t : Nat) (c : TCd) (x : DenMs P s.ms) : Option (DenOs s.outs) :=
  trun tab n c (entT (inL P s.ms x)) (endK (boxT n t s))
noncomputable def mkEB (tab : List (AEnt P)) (id n : Nat) (s : Sig) (t : Nat) (x : TCd) (hm : P.follows .mixedOrders = true) {fn : Func} {c : Code}
    (hf : P.funcs[id]? = some fn) (hb : fn.body = some c) (hr : fn.results = [ResultVar.tmp t].toArray) (hnt : fn.ntmps = n) (hc : cCode P n c = x.ac) (hn : Nat.ble s.ms.length n = true) (hname : (fn.name == "runtime.NumGoroutine") = false) (hbx : s.box = true) : Ent P s where
  id := id
  f := runEB tab n s t x
  ok := fun v y hsm h => by
    unfold ConE
    split
    · rename_i hbx'; rw [hbx] at hbx'; cases hbx'
    · refine conB_of hf hb hr hnt hc ?_ hname fun G => ?_
      · rw [argsL_len, ← List.length_map, inL_ms]; exact Nat.le_of_ble_eq_true hn
      · rw [ent_img]
        refine TA.post ((trun_ok hm x (ent_inv _ hsm) h).mono fun e σ hq => ?_)
        obtain ⟨τ', rfl, hI', _, hk⟩ := hq
        cases e with
        | normal =>
          obtain ⟨σ', h1, h2⟩ := boxT_ok (G := G) hI' hk
          exact ⟨_, Wk.refl _, .inl rfl, σ', h1, h2⟩
        | ret =>
          obtain ⟨σ', h1, h2⟩ := boxT_ok (G := G) hI' hk
          exact ⟨_, Wk.refl _, .inr rfl, σ', h1, h2⟩
        | _ => cases hk
end
def insL (x : Nat) : List Nat → List Nat
  | [] => [x]
  | y :: r => match Nat.beq x y with
    | true => y :: r
    | false => match Nat.ble x y with
      | true => x :: y :: r
      | false => y :: insL x r
def uniL : List Nat → List Nat → List Nat
  | [], l => l
  | x :: r, l => insL x (uniL r l)
def remL (x : Nat) : List Nat → List Nat
  | [] => []
  | y :: r => match Nat.beq x y with
    | true => r
    | false => y :: remL x r
def remO : Option Nat → List Nat → List Nat
  | some x, l => remL x l
  | none, l => l
def gRegs : Option (Nat × Bool) → List Nat
  | some (t, _) => [t]
  | none => []
def ixReg : Ix → List Nat
  | .t n => [n]
  | .k _ => []
def liveOps : List AOp → List Nat → List Nat
  | [], L => L
  | x :: r, L => uniL (gRegs x.g) (uniL (ixRegs x.k.ixs) (remO x.d (liveOps r L)))
def lkE : List (Nat × List Nat) → Nat → List Nat
  | [], _ => []
  | (j, l) :: r, i => match Nat.beq i j with
    | true => l
    | false => lkE r i
def live (rt : List Nat) : AC → List (Nat × List Nat) → List Nat → List Nat
  | .reg ops, ex, L => liveOps ops L
  | .dreg _ ops, ex, L => liveOps ops L
  | .seq x y, ex, L => live rt x ex (live rt y ex L)
  | .cond c x y, ex, L => uniL (ixReg c) (uniL (live rt x ex L) (live rt y ex L))
  | .block i x, ex, L => live rt x ((i, L) :: ex) L
  | .loop x, ex, L => live rt x ex (live rt x ex [])
  | .exit i, ex, L => lkE ex i
  | .ret, ex, L => rt
  | .skip, _, L => L
  | .bad, _, _ => []
structure Hint where
  i : Nat
  ps : List (Exit × TPl × List Nat)
def lkH : List Hint → Nat → Option (List (Exit × TPl × List Nat))
  | [], _ => none
  | h :: r, i => match Nat.beq i h.i with
    | true => some h.ps
    | false => lkH r i
def lvOf (rt : List Nat) (ex : List (Nat × List Nat)) (L : List Nat) : Exit → List Nat
  | .normal => L
  | .exit i => lkE ex i
  | .ret => rt
  | _ => []
def ports (rt : List Nat) (ex : List (Nat × List Nat)) (L : List Nat) : List (Exit × TPl × List Nat) → List (Exit × Port)
  | [] => []
  | (e, T, fz) :: r => (e, ⟨T, lvOf rt ex L e, fz⟩) :: ports rt ex L r
def annO : List AOp → List Ty → List (AOp × Option Ty) × List Ty
  | [], es => ([], es)
  | x :: r, es => match x.k with
    | .bsl .. => match es with
      | t :: es => ((x, some t) :: (annO r es).1, (annO r es).2)
      | [] => ((x, none) :: (annO r []).1, (annO r []).2)
    | .mks .. => match es with
      | t :: es => ((x, some t) :: (annO r es).1, (annO r es).2)
      | [] => ((x, none) :: (annO r []).1, (annO r []).2)
    | _ => ((x, none) :: (annO r es).1, (annO r es).2)
structure An where
  c : TCd
  L : List Nat
  i : Nat
  es : List Ty
def join' (hs : List Hint) (i : Nat) (rt : List Nat) (ex : List (Nat × List Nat)) (L : List Nat) (c : TCd) : TCd :=
  match lkH hs i with
  | some ps => .join (ports rt ex L ps) c
  | none => c
def ann (hs : List Hint) (fz : List (Nat × List Nat)) (rt : List Nat) : AC → List (Nat × List Nat) → List Nat → Nat → List Ty → An
  | .skip, ex, L, i, es => ⟨.skip, L, i, es⟩
  | .reg ops, ex, L, i, es => ⟨join' hs i rt ex L (.reg (annO ops es).1 L (lkE fz i)), liveOps ops L, i + 1, (annO ops es).2⟩
  | .dreg ord ops, ex, L, i, es => ⟨join' hs i rt ex L (.dreg ord (annO ops es).1 L (lkE fz i)), liveOps ops L, i + 1, (annO ops es).2⟩
  | .seq x y, ex, L, i, es =>
    let b := ann hs fz rt y ex L i es
    let a := ann hs fz rt x ex b.L b.i b.es
    ⟨.seq a.c b.c, a.L, a.i, a.es⟩
  | .cond c x y, ex, L, i, es =>
    let b := ann hs fz rt y ex L (i + 1) es
    let a := ann hs fz rt x ex L b.i b.es
    ⟨join' hs i rt ex L (.cond c a.c b.c), uniL (ixReg c) (uniL a.L b.L), a.i, a.es⟩
  | .block j x, ex, L, i, es =>
    let a := ann hs fz rt x ((j, L) :: ex) L (i + 1) es
    ⟨join' hs i rt ex L (.block j a.c), a.L, a.i, a.es⟩
  | .loop x, ex, L, i, es =>
    let L1 := live rt (.loop x) ex []
    let a := ann hs fz rt x ex L1 (i + 1) es
    ⟨match lkH hs i with
      | some ((_, T, fz) :: ps) => .loop ⟨T, L1, fz⟩ (ports rt ex L ps) a.c
      | _ => .loop ⟨⟨[], []⟩, L1, []⟩ [] a.c, L1, a.i, a.es⟩
  | .exit j, ex, L, i, es => ⟨.exit j, lkE ex j, i, es⟩
  | .ret, ex, L, i, es => ⟨.ret, rt, i, es⟩
  | .bad, ex, L, i, es => ⟨.bad, [], i, es⟩
theorem annO_ops : ∀ (l : List AOp) (es : List Ty), opsOf (annO l es).1 = l
  | [], es => rfl
  | x :: r, es => by
    have h := fun es => annO_ops r es
    simp only [opsOf] at h
    simp only [annO]
    split
    · split <;> simp only [opsOf, List.map_cons, h]
    · split <;> simp only [opsOf, List.map_cons, h]
    · simp only [opsOf, List.map_cons, h]
theorem join_ac {hs : List Hint} {i : Nat} {rt L : List Nat} {ex : List (Nat × List Nat)} {c : TCd} : (join' hs i rt ex L c).ac = c.ac := by
  unfold join'; split <;> rfl
theorem ann_ac {hs : List Hint} {fz : List (Nat × List Nat)} {rt : List Nat} : ∀ (x : AC) (ex : List (Nat × List Nat)) (L : List Nat) (i : Nat) (es : List Ty), (ann hs fz rt x ex L i es).c.ac = x
  | .skip, ex, L, i, es => rfl
  | .reg ops, ex, L, i, es => by simp only [ann, join_ac, TCd.ac, annO_ops]
  | .dreg ord ops, ex, L, i, es => by simp only [ann, join_ac, TCd.ac, annO_ops]
  | .seq x y, ex, L, i, es => by simp only [ann, TCd.ac, ann_ac x, ann_ac y]
  | .cond c x y, ex, L, i, es => by simp only [ann, join_ac, TCd.ac, ann_ac x, ann_ac y]
  | .block j x, ex, L, i, es => by simp only [ann, join_ac, TCd.ac, ann_ac x]
  | .loop x, ex, L, i, es => by
    simp only [ann]
    split <;> simp only [TCd.ac, ann_ac x]
  | .exit j, ex, L, i, es => rfl
  | .ret, ex, L, i, es => rfl
  | .bad, ex, L, i, es => rfl
def annF (hs : List Hint) (es : List Ty) (fz : List (Nat × List Nat)) (rt : List Nat) (x : AC) : TCd := (ann hs fz rt x [] rt 0 es).c
section
variable {P : Program}
noncomputable def genE (tab : List (AEnt P)) (id : Nat) (s : Sig) (rs : List Rk) (hs : List Hint) (es : List Ty) (fz : List (Nat × List Nat)) (hm : P.follows .mixedOrders = true) {fn : Func} {c : Code} {rv : List ResultVar}
    (hf : P.funcs[id]? = some fn) (hb : fn.body = some c) (hr : fn.results = rv.toArray) (hrv : cRess P rv = some rs) (hn : Nat.ble s.ms.length fn.ntmps = true) (hname : (fn.name == "runtime.NumGoroutine") = false) (hbx : s.box = false) : Ent P s :=
  mkE tab id fn.ntmps s rs (annF hs es fz (rkRegs rs) (cCode P fn.ntmps c)) hm hf hb hr hrv rfl (ann_ac _ _ _ _ _).symm hn hname hbx
noncomputable def genB (tab : List (AEnt P)) (id : Nat) (s : Sig) (t : Nat) (hs : List Hint) (es : List Ty) (fz : List (Nat × List Nat)) (hm : P.follows .mixedOrders = true) {fn : Func} {c : Code}
    (hf : P.funcs[id]? = some fn) (hb : fn.body = some c) (hr : fn.results = [ResultVar.tmp t].toArray) (hn : Nat.ble s.ms.length fn.ntmps = true) (hname : (fn.name == "runtime.NumGoroutine") = false) (hbx : s.box = true) : Ent P s :=
  mkEB tab id fn.ntmps s t (annF hs es fz [t] (cCode P fn.ntmps c)) hm hf hb hr rfl (ann_ac _ _ _ _ _).symm hn hname hbx
end
open Go.RowKit
theorem con_clone {P : Program} {f : FuncId} {bytes : Nat} {te : TypeId} (he : Enters P f) (t : Ty) (hf : t.flat = true)
    (hnil : ∀ (n c : Nat) (w : World), Calls P f #[.slice none n c] w fun e w' => e = .returned (.slice none 0 0) ∧ w' = w)
    (hsm : ∀ (ad : Addr) (n c : Nat) (news : List Value) (w : World), news.length = n * t.sz → n * bytes ≤ 140737488351232 → (∀ j u, news[j]? = some u → w.cell? (ad.add j) = some u) → (∀ u ∈ news, u.oneCell' = true) →
      Calls P f #[.slice (some ad) n c] w fun e w' => ∃ v', e = .returned v' ∧ w'.ownsRow w.heap.size te t.sz v' n news ∧ Below w.heap.size w w')
    (l : List (Den t)) (hl : l.length * bytes ≤ 140737488351232) : Con P f [.v (.one (.vs false t.sz (l.map (enc t))))] [.one (.vs true t.sz (l.map (enc t)))] := by
  refine ⟨he, fun w τ N us fo fw ws ha hnd hN hnN hlt => ?_⟩
  cases ha with
  | v h hn ht =>
  cases ht
  have h : RC w (fun g => N g ∨ g ∈ ([] : List (List Nat)).flatten ++ ([] : List (List Nat)).flatten) (X0 τ (fun g => N g ∨ g ∈ ([] : List (List Nat)).flatten ++ ([] : List (List Nat)).flatten)) (.vs false t.sz (l.map (enc t))) _ [] := h
  cases h with
  | @ro _ _ A c xs hcc hkk hll hx hc =>
  have hsh : ∀ p ∈ (l.map (enc t)).flatten, p.sh = p := by
    intro p hp
    obtain ⟨c, hc, hpc⟩ := List.mem_flatten.1 hp
    obtain ⟨v, _, rfl⟩ := List.mem_map.1 hc
    have h1 := enc_sh t hf v
    obtain ⟨i, hi⟩ := List.getElem?_of_mem hpc
    have h2 := congrArg (fun l => l[i]?) h1
    simp only [List.getElem?_map, hi, Option.map_some] at h2
    exact Option.some.inj h2
  have hkk' : ∀ c ∈ l.map (enc t), c.length = t.sz := hkk
  have hlen : xs.length = l.length * t.sz := by rw [← hll, flatten_len _ hkk']; simp
  have hnr : ∀ c ∈ l.map (enc t), ∀ p ∈ c, NoRef p := by
    intro c hc p hp
    obtain ⟨v, _, rfl⟩ := List.mem_map.1 hc
    exact enc_nr t v p hp
  have one : ∀ u ∈ xs, u.oneCell' = true := by
    intro u hu
    obtain ⟨j, hj⟩ := List.getElem?_of_mem hu
    have hj' : j < xs.length := (List.getElem?_eq_some_iff.1 hj).1
    exact (hc j _ u (List.getElem?_eq_getElem (by omega)) hj).oneCell
  have fin : ∀ (v' : Value) (w' : World), w'.ownsRow w.heap.size te t.sz v' l.length xs → Below w.heap.size w w' → ConPost w w' τ N [.v (.one (.vs false t.sz (l.map (enc t))))] [.one (.vs true t.sz (l.map (enc t)))] (([] : List (List Nat)).flatten ++ ([] : List (List Nat)).flatten) [] v' := by
    intro v' w' hr hb
    have hb' := fun g hg => hb.block g hg
    have hlt' := hr.lt
    refine ⟨⟨hb.os, hb.tape, hb.output, hb.size, fun g hg _ _ => hb.block g hg, by simp⟩, [v'], [v'.ownBlock.toList ++ (List.replicate xs.length ([] : List Nat)).flatten], [], rfl, ?_, .v .nil, ?_, ?_⟩
    · refine .cons ?_ ?_ .nil
      · show RC w' _ _ (.vs true t.sz (l.map (enc t))) v' _
        refine .own te ?_ hkk' hll (by simp) fun j p u f hp hu hff => ?_
        · have := hr; rw [List.length_map]
          exact ⟨hr.1, hr.2.imp id fun ⟨g, cap, cur, h1, h2, h3⟩ => ⟨g, cap, cur, h1, Nat.zero_le _, h3⟩⟩
        · have e0 := List.eq_of_mem_replicate (List.mem_of_getElem? hff)
          subst e0
          have h1 := hc j p u hp hu
          rw [hsh p (List.mem_of_getElem? hp)] at h1
          refine h1.frame (by simp) (fun g hg _ => hb.block g hg) (fun g hg hm => ?_) ⟨fun _ h => h, fun id B h => by simp [X0] at h, rfl⟩
          simp only [List.flatten_nil, List.append_nil, List.not_mem_nil, or_false] at hm
          rintro (hh | hh)
          · exact hm hh
          · simp only [List.flatten_cons, List.flatten_nil, List.append_nil, List.mem_append, List.mem_flatten, Option.mem_toList] at hh
            rcases hh with hh | ⟨f, hf1, hf2⟩
            · have := (hlt' g hh).1; omega
            · rw [List.eq_of_mem_replicate hf1] at hf2; simp at hf2
      · intro p hp
        simp only [R1.cs, List.mem_singleton] at hp; subst hp
        exact .vs hnr
    · have : (List.replicate xs.length ([] : List Nat)).flatten = [] := by simp
      rw [this]
      cases v'.ownBlock <;> simp
    · intro g hg
      simp only [List.flatten_cons, List.flatten_nil, List.append_nil, List.mem_append, List.mem_flatten, Option.mem_toList] at hg
      rcases hg with hh | ⟨f, hf1, hf2⟩
      · have := hlt' g hh; exact ⟨.inr this.1, this.2⟩
      · rw [List.eq_of_mem_replicate hf1] at hf2; simp at hf2
  cases A with
  | none =>
    have h0 : xs = [] := by
      cases xs with
      | nil => rfl
      | cons u xs => obtain ⟨ad, h1, _⟩ := hx 0 u rfl; cases h1
    refine (hnil _ c w).mono ?_
    rintro e w' ⟨rfl, rfl⟩
    refine ⟨_, rfl, fin _ _ ?_ (Below.refl _ _)⟩
    have hz : l.length * t.sz = 0 := by rw [← hlen, h0]; rfl
    have hl0 : l.length = 0 := by
      rcases Nat.eq_zero_or_pos l.length with h | h
      · exact h
      · rcases Nat.mul_eq_zero.1 hz with h1 | h1
        · exact h1
        · exact absurd h1 (by have := sz_pos t; omega)
    rw [hl0, h0]
    exact World.ownsRow_nil _ _ _ _
  | some ad =>
    have := hsm ad (l.map (enc t)).length c xs w (by rw [hlen]; simp) (by simpa using hl) (fun j u hu => by obtain ⟨ad', e1, _, e2⟩ := hx j u hu; cases e1; exact e2) one
    refine this.mono ?_
    rintro e w' ⟨v', rfl, hr, hb⟩
    exact ⟨v', rfl, fin v' w' (by simpa using hr) hb⟩
def cloneE {P : Program} (id : FuncId) (t : Ty) (bytes : Nat) (te : TypeId) (he : Enters P id) (hf : t.flat = true)
    (hnil : ∀ (n c : Nat) (w : World), Calls P id #[.slice none n c] w fun e w' => e = .returned (.slice none 0 0) ∧ w' = w)
    (hsm : ∀ (ad : Addr) (n c : Nat) (news : List Value) (w : World), news.length = n * t.sz → n * bytes ≤ 140737488351232 → (∀ j u, news[j]? = some u → w.cell? (ad.add j) = some u) → (∀ u ∈ news, u.oneCell' = true) →
      Calls P id #[.slice (some ad) n c] w fun e w' => ∃ v', e = .returned v' ∧ w'.ownsRow w.heap.size te t.sz v' n news ∧ Below w.heap.size w w') :
    Ent P ⟨[.v (.sl t)], [.sl t], false⟩ where
  id := id
  f := fun l => gd (List.length l * bytes ≤ 140737488351232) (some l)
  ok := fun x y _ h => by
    obtain ⟨h1, h2⟩ := gd_some h
    injection h2 with h2
    subst h2
    exact con_clone he t hf hnil hsm x h1
open Go.RowKit
def wr (k : IntKind) (n : Int) : Int := k.wrap n
def w6 (n : Int) : Int := IntKind.i64.wrap n
def ixo (k : IntKind) (x y : Int) : Int := k.wrap (BitVec.ofInt k.bits x ^^^ BitVec.ofInt k.bits y).toNat
def ian (k : IntKind) (x y : Int) : Int := k.wrap (BitVec.ofInt k.bits x &&& BitVec.ofInt k.bits y).toNat
def ior (k : IntKind) (x y : Int) : Int := k.wrap (BitVec.ofInt k.bits x ||| BitVec.ofInt k.bits y).toNat
def ish (k : IntKind) (x y : Int) : Int := x / 2 ^ min y.toNat k.bits
def cl {A B : Type} (f : A → Option B) : A → Option B := fun q => bd (f q) fun y => some y
theorem cl_eq {A B : Type} (f : A → Option B) : cl f = f := by funext q; unfold cl bd; split <;> simp_all
def cloneF {A : Type} (b : Nat) (l : List A) : Option (List A) := gd (l.length * b ≤ 140737488351232) (some l)
def repeatF (a : List Int × Int) : Option (List Int) := match a with
  | ([x], n) => match decide (n = 1), decide (n = 2), decide (n = 3) with
    | true, _, _ => some [x]
    | _, true, _ => some [x, x]
    | _, _, true => some [x, x, x]
    | _, _, _ => none
  | _ => none
theorem kept_below {w w' : World} (h : Kept w w' (· ∈ ([] : List Nat)) []) : Below w.heap.size w w' :=
  ⟨h.os, h.tape, h.output, h.size, fun k hk => h.old k hk (by simp) (by simp)⟩
theorem walk_of {P : Program} (E : Ent P ⟨[.v (.sl (.int .u8))], [.bool], false⟩) (hc : ∀ l : List Int, (∀ x ∈ l, (Lit.int .u8 x).wf = true) → E.f l = some true)
    (a0 : Option Addr) (len0 cap0 : Nat) (z0 : List Int) (w : World)
    (w0 : (a0 = none ∧ len0 = 0 ∧ cap0 = 0 ∧ z0 = []) ∨ ∃ x, a0 = some x ∧ len0 ≤ cap0 ∧ cap0 ≤ maxLen ∧ z0.length = cap0 ∧ (∀ i, i < z0.length → w.cell? (x.add i) = some (.int .u8 (z0.getD i 0))) ∧ ∀ n ∈ z0, (Lit.int .u8 n).wf = true)
    (y0 : len0 * 1 ≤ 140737488351232) : Calls P E.id #[.slice a0 len0 cap0] w fun e w' => e = .returned (.bool true) ∧ Below w.heap.size w w' := by
  have hz : len0 ≤ z0.length ∧ ∀ n ∈ z0, (Lit.int .u8 n).wf = true := by
    rcases w0 with ⟨_, rfl, _, rfl⟩ | ⟨x, _, h1, _, h2, _, h3⟩
    · exact ⟨Nat.le_refl _, by simp⟩
    · exact ⟨by omega, h3⟩
  have hlen : (z0.take len0).length = len0 := by rw [List.length_take]; omega
  have hcap : len0 ≤ cap0 := by
    rcases w0 with ⟨_, rfl, rfl, rfl⟩ | ⟨x, _, h1, _⟩
    · exact Nat.le_refl _
    · exact h1
  have hcon0 := E.ok (z0.take len0) true trivial (hc (z0.take len0) (fun x hx => hz.2 x (List.mem_of_mem_take hx)))
  have hcon1 : Con P E.id [.v (.one (.vs false 1 ((z0.take len0).map fun n => [PV.i .u8 n])))] [.one (.b true)] := hcon0
  obtain ⟨_, hcon⟩ := hcon1
  let τ : Nat → Value := fun _ => .bool true
  have hfl : ((z0.take len0).map fun n => [PV.i .u8 n]).flatten = (z0.take len0).map fun n => PV.i .u8 n := by
    induction z0.take len0 with
    | nil => rfl
    | cons a l ih => simp at ih ⊢; exact ih
  have harg : ArgsR w (fun g => False ∨ g ∈ ([] : List (List Nat)).flatten ++ ([] : List (List Nat)).flatten) τ [.v (.one (.vs false 1 ((z0.take len0).map fun n => [PV.i .u8 n])))] [.slice a0 len0 cap0] [] [] [] := by
    refine .v ?_ ?_ .nil
    rotate_left
    · intro p hp
      simp only [R1.cs, List.mem_singleton] at hp; subst hp
      refine .vs fun c hc => ?_
      obtain ⟨n, _, rfl⟩ := List.mem_map.1 hc
      intro p hp
      simp only [List.mem_singleton] at hp; subst hp; exact .i
    show RC w _ _ (.vs false 1 ((z0.take len0).map fun n => [PV.i .u8 n])) (.slice a0 len0 cap0) []
    have e0 : len0 = ((z0.take len0).map fun n => [PV.i .u8 n]).length := by rw [List.length_map, hlen]
    have key : RC w (fun g => False ∨ g ∈ ([] : List (List Nat)).flatten ++ ([] : List (List Nat)).flatten) (X0 τ fun g => False ∨ g ∈ ([] : List (List Nat)).flatten ++ ([] : List (List Nat)).flatten) (.vs false 1 ((z0.take len0).map fun n => [PV.i .u8 n])) (.slice a0 ((z0.take len0).map fun n => [PV.i .u8 n]).length cap0) [] := by
      refine .ro (xs := (z0.take len0).map fun n => Value.int .u8 n) (by rw [← e0]; exact hcap) (fun c hc => by obtain ⟨n, _, rfl⟩ := List.mem_map.1 hc; rfl) (by rw [hfl]; simp) (fun j u hu => ?_) fun j p u hp hu => ?_
      · rw [List.getElem?_map] at hu
        obtain ⟨n, hn, rfl⟩ := Option.map_eq_some_iff.1 hu
        rw [List.getElem?_take] at hn
        split at hn
        · rename_i hj
          rcases w0 with ⟨_, rfl, _, rfl⟩ | ⟨x, hx, h1, _, h2, h4, h3⟩
          · simp at hn
          · refine ⟨x, hx, by simp, ?_⟩
            have hjz : j < z0.length := by omega
            rw [h4 j hjz]
            rw [List.getElem?_eq_getElem hjz] at hn
            simp [List.getD_eq_getElem?_getD, List.getElem?_eq_getElem hjz, Option.some.inj hn]
        · cases hn
      · rw [hfl, List.getElem?_map] at hp
        rw [List.getElem?_map] at hu
        obtain ⟨n, hn, rfl⟩ := Option.map_eq_some_iff.1 hp
        rw [hn] at hu
        simp only [Option.map_some, Option.some.injEq] at hu
        subst hu
        exact .i
    rw [← e0] at key
    exact key
  refine Calls.mono (hcon w τ (fun _ => False) _ [] [] [] harg (by simp) (by simp) (by simp) (by simp)) fun e w' hq => ?_
  obtain ⟨u, rfl, hk, us, rf, fw, hu, hres, _⟩ := hq
  cases hres with
  | cons h1 hn t =>
    cases t with
    | nil =>
      refine ⟨?_, kept_below hk⟩
      have : RC w' _ _ (.b true) _ _ := h1
      have hv := this.b_inv
      rw [hu, hv]; rfl
end Go.Proofs.YtfhkpnnbklojoaaGreatA.AS
