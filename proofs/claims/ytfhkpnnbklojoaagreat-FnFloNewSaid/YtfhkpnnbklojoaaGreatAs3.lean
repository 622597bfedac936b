/- A part of the proof that FnFloNew holds: an abstract machine, typed evaluation, and that both are sound. -/
import Derived.Test.YtfhkpnnbklojoaaGreatAs2
set_option linter.unusedVariables false
set_option linter.unusedSimpArgs false
namespace Go.Proofs.YtfhkpnnbklojoaaGreatA.AS
def wsl (e : Nat × TB) : Nat × Slot := (e.1, e.2.slot)
theorem tthaw_ok (g : Nat) : ∀ (b : Nat) (cs : List TC), thaw b (cs.map TC.pv) = ((tthaw g b cs).1.map TC.pv, (tthaw g b cs).2.map wsl)
  | b, [] => rfl
  | b, c :: r => by
    have i1 := tthaw_ok g b r
    have i2 := tthaw_ok g (b + 1) r
    cases c with
    | c x =>
      cases x with
      | sl o t l =>
        cases o
        · simp only [List.map_cons, TC.pv, SC.pv, thaw, tthaw, i1]
        · simp only [List.map_cons, TC.pv, SC.pv, thaw, tthaw, i2, List.length_map, wsl, TB.slot]
      | nl o k =>
        cases o
        · simp only [List.map_cons, TC.pv, SC.pv, thaw, tthaw, i1]
        · simp only [List.map_cons, TC.pv, SC.pv, thaw, tthaw, i2, List.length_nil, wsl, TB.slot]
      | _ => simp only [List.map_cons, TC.pv, SC.pv, thaw, tthaw, i1]
    | _ => simp only [List.map_cons, TC.pv, thaw, tthaw, i1]
theorem tthaw_ids (g b : Nat) (cs : List TC) : (tthaw g b cs).2.map (·.1) = List.range' b (tthaw g b cs).2.length := by
  have h := thaw_ids b (cs.map TC.pv)
  rw [tthaw_ok g] at h
  simpa [List.map_map, Function.comp_def, wsl] using h
theorem tthaw_blk {g : Nat} : ∀ {b : Nat} {cs : List TC} {e : Nat × TB}, e ∈ (tthaw g b cs).2 → b ≤ e.1 ∧ ((∃ t l, e.2 = .sl t g l) ∨ ∃ k, e.2 = .nb g k)
  | b, [], e, h => by simp [tthaw] at h
  | b, c :: r, e, h => by
    have i1 : e ∈ (tthaw g b r).2 → _ := tthaw_blk (cs := r)
    have i2 : e ∈ (tthaw g (b + 1) r).2 → _ := tthaw_blk (cs := r)
    have i2' : e ∈ (tthaw g (b + 1) r).2 → b ≤ e.1 ∧ ((∃ t l, e.2 = .sl t g l) ∨ ∃ k, e.2 = .nb g k) := fun k => ⟨by have := (i2 k).1; omega, (i2 k).2⟩
    unfold tthaw at h
    split at h
    · rcases List.mem_cons.1 h with rfl | h
      · exact ⟨Nat.le_refl _, .inl ⟨_, _, rfl⟩⟩
      · exact i2' h
    · rcases List.mem_cons.1 h with rfl | h
      · exact ⟨Nat.le_refl _, .inr ⟨_, rfl⟩⟩
      · exact i2' h
    · exact i1 h
theorem tthaw_cell {g : Nat} : ∀ {b : Nat} {cs : List TC} {c : TC}, c ∈ (tthaw g b cs).1 → c ∈ cs ∨ ∃ id tb m, c = .ref id g m ∧ (id, tb) ∈ (tthaw g b cs).2 ∧ ∀ v m', vlen tb = some (v, m') → m = m'
  | b, [], c, h => by simp [tthaw] at h
  | b, c0 :: r, c, h => by
    have i1 : c ∈ (tthaw g b r).1 → _ := tthaw_cell (cs := r)
    have i2 : c ∈ (tthaw g (b + 1) r).1 → _ := tthaw_cell (cs := r)
    unfold tthaw at h ⊢
    split at h
    · rcases List.mem_cons.1 h with rfl | h
      · exact .inr ⟨_, _, _, rfl, List.mem_cons_self, by simp [vlen]⟩
      · rcases i2 h with k | ⟨id, tb, m, k1, k2, k3⟩
        · exact .inl (by simp [k])
        · exact .inr ⟨id, tb, m, k1, by simp [k2], k3⟩
    · rcases List.mem_cons.1 h with rfl | h
      · exact .inr ⟨_, _, _, rfl, List.mem_cons_self, by simp [vlen]⟩
      · rcases i2 h with k | ⟨id, tb, m, k1, k2, k3⟩
        · exact .inl (by simp [k])
        · exact .inr ⟨id, tb, m, k1, by simp [k2], k3⟩
    · rename_i h1 h2
      rcases List.mem_cons.1 h with rfl | h
      · exact .inl (by simp)
      · rcases i1 h with k | ⟨id, tb, m, k1, k2, k3⟩
        · exact .inl (by simp [k])
        · exact .inr ⟨id, tb, m, k1, k2, k3⟩
theorem tthaw_len (g b : Nat) (cs : List TC) : (tthaw g b cs).1.length = cs.length := by
  have h : ∀ (cs : List TC) (b : Nat), (tthaw g b cs).1.length = cs.length := by
    intro cs
    induction cs with
    | nil => intro b; rfl
    | cons c r ih => intro b; unfold tthaw; split <;> simp [ih]
  exact h cs b
section
variable {P : Program} {τ : TSt} {n b : Nat} {E : TE} {R : Type} {K : TE → Option R} {r : R}
theorem thaw_okE (hI : Inv P τ) {id b' : Nat} (hid : id < b') (hb : τ.h.length ≤ b') {tb' : TB} {cs : List TC} (hcs : ∀ c ∈ cs, cok P τ.h τ.g c) {v : TV} {rd : List Nat}
    (h1 : ∀ v m, v < τ.g → vlen tb' = some (v, m) → vlen (tbAt τ.h id) = some (v, m)) (h2 : ∀ v m q, v < τ.g → hinf tb' = some (v, m, q) → hinf (tbAt τ.h id) = some (v, m, q))
    (hbk : ∀ h', HLe τ.h τ.g h' (τ.g + 1) → (∀ c ∈ (tthaw τ.g b' cs).1, cok P h' (τ.g + 1) c) → bok P h' (τ.g + 1) tb')
    (hv : ∀ h', HLe τ.h τ.g h' (τ.g + 1) → (∀ c ∈ (tthaw τ.g b' cs).1, cok P h' (τ.g + 1) c) → tbAt h' id = tb' → ∀ c ∈ v.cs, cok P h' (τ.g + 1) c) :
    OkE P τ { v := v, wh := (id, tb') :: (tthaw τ.g b' cs).2, rd := rd, g := τ.g + 1 } := by
  have hnd : (((id, tb') :: (tthaw τ.g b' cs).2).map (·.1)).Nodup := by
    rw [List.map_cons, tthaw_ids, List.nodup_cons]
    refine ⟨fun hm => ?_, List.nodup_range'⟩
    rw [List.mem_range'_1] at hm; omega
  have hcells : HLe τ.h τ.g (setTs τ.h ((id, tb') :: (tthaw τ.g b' cs).2)) (τ.g + 1) → ∀ c ∈ (tthaw τ.g b' cs).1, cok P (setTs τ.h ((id, tb') :: (tthaw τ.g b' cs).2)) (τ.g + 1) c := by
    intro le c hc
    rcases tthaw_cell hc with k | ⟨i, tb, m, rfl, k2, k3⟩
    · exact le.cok (hcs c k)
    · refine ⟨Nat.lt_succ_self _, fun m' e => ?_⟩
      rw [setTs_get (x := tb) hnd (by simp [k2])] at e
      exact k3 _ _ e
  refine OkE.wr hI (Nat.le_succ _) (fun e he => ?_) (fun le e he => ?_) (fun le c hc => hv _ le (hcells le) (setTs_get hnd (by simp)) c hc)
  · rcases List.mem_cons.1 he with rfl | he
    · exact ⟨h1, h2⟩
    · obtain ⟨_, ⟨t, l, e1⟩ | ⟨k, e1⟩⟩ := tthaw_blk he
      · rw [e1]; exact ⟨fun v m hv e => by simp [vlen] at e; omega, fun v m q hv e => by simp [hinf] at e⟩
      · rw [e1]; exact ⟨fun v m hv e => by simp [vlen] at e; omega, fun v m q hv e => by simp [hinf] at e⟩
  · rcases List.mem_cons.1 he with rfl | he
    · exact hbk _ le (hcells le)
    · obtain ⟨_, ⟨t, l, e1⟩ | ⟨k, e1⟩⟩ := tthaw_blk he
      · rw [e1]; exact Nat.lt_succ_self _
      · rw [e1]; exact Nat.lt_succ_self _
theorem var_l {w : Bool} {cs : List TC} : (TB.var w cs).slot = .live ⟨if w then 2 else 1, cs.length, [], [cs.map TC.pv]⟩ := rfl
theorem hole_get {t : Ty} {pre post : List (Den t)} {p : List PV} : (pre.map (enc t) ++ p :: post.map (enc t))[pre.length]? = some p := by
  rw [List.getElem?_append_right (by simp)]; simp
theorem hole_set {t : Ty} {pre post : List (Den t)} {p q : List PV} : (pre.map (enc t) ++ p :: post.map (enc t)).set pre.length q = pre.map (enc t) ++ q :: post.map (enc t) := by
  rw [List.set_append_right _ _ (by simp)]; simp
theorem hole_len {t : Ty} {pre post : List (Den t)} {p : List PV} : (pre.map (enc t) ++ p :: post.map (enc t)).length = pre.length + 1 + post.length := by
  simp; omega
theorem lt_of_tb {id : Nat} {x : TB} (h : tbAt τ.h id = x) (hx : x ≠ .fresh) : id < τ.h.length := tbAt_lt (by rw [h]; exact hx)
theorem set_splice {α : Type} {l : List α} {j : Nat} {x : α} (h : j < l.length) : l.set j x = splice l j [x] := by
  rw [List.set_eq_take_append_cons_drop, if_pos h]; simp [splice]
theorem TC.pv_vs {c : TC} {k : Nat} {l : List (List PV)} (h : c.pv = .vs true k l) : (∃ t m, c = .c (.sl true t m) ∧ k = t.sz ∧ l = m.map (enc t)) ∨ (c = .c (.nl true k) ∧ l = []) := by
  cases c with
  | c x =>
    cases x with
    | sl o t m => injection h with h1 h2 h3; subst h1 h2 h3; exact .inl ⟨t, m, rfl, rfl, rfl⟩
    | nl o k => injection h with h1 h2 h3; subst h1 h2 h3; exact .inr ⟨rfl, rfl⟩
    | _ => cases h
  | _ => cases h
theorem p_ld1 (hI : Inv P τ) (hb : τ.h.length ≤ b) {et : Option Ty} {x : Ix} (h : teff τ b et (.ld1 x) K = some r) : Prm P n τ b (.ld1 x) K r := by
  simp only [teff] at h
  split at h
  · rename_i id j hx
    obtain ⟨e1, k1⟩ := ev1_ok (n := n) hI hx (by simp)
    split at h
    · rename_i w cs hB
      have hlt := lt_of_tb hB (by simp)
      have hbk := hI.blks id
      rw [hB] at hbk
      have hbk : ∀ c ∈ cs, cok P τ.h τ.g c := hbk
      have hs : (img n τ).slot id = .live ⟨if w then 2 else 1, cs.length, [], [cs.map TC.pv]⟩ := by rw [img_slot, hB]; rfl
      simp only [Prm, effK, e1, TC.pv, St.blk, hs]
      refine ⟨rfl, ?_⟩
      split at h
      · rename_i t l hc
        refine ⟨cs.map TC.pv, .vs true t.sz (l.map (enc t)), rfl, by simp [hc, TC.pv, SC.pv], img_fresh b hb, _, ?_, thaw_okE hI (id := id) (b' := b) (tb' := .var w (cs.set j (.ref b τ.g l.length))) (cs := [.c (.sl true t l)]) (v := .r (.one (.ref b τ.g l.length))) (by omega) hb (fun c hc => by simp at hc; subst hc; trivial) (fun _ _ _ e => (var_vlen e).elim) (fun _ _ _ _ e => (var_hinf e).elim) (fun h' le hcc c hc => ?_) (fun h' le hcc _ c hc => hcc c ?_), h⟩
        · simp [TE.img, TV.rv, TR.r1, TC.pv, TB.slot, tthaw]
        · rcases List.mem_or_eq_of_mem_set hc with hc | rfl
          · exact le.cok (hbk c hc)
          · exact hcc _ (by simp [tthaw])
        · simpa [tthaw, TV.cs, TR.cs] using hc
      · rename_i k hc
        refine ⟨cs.map TC.pv, .vs true k [], rfl, by simp [hc, TC.pv, SC.pv], img_fresh b hb, _, ?_, thaw_okE hI (id := id) (b' := b) (tb' := .var w (cs.set j (.ref b τ.g 0))) (cs := [.c (.nl true k)]) (v := .r (.one (.ref b τ.g 0))) (by omega) hb (fun c hc => by simp at hc; subst hc; trivial) (fun _ _ _ e => (var_vlen e).elim) (fun _ _ _ _ e => (var_hinf e).elim) (fun h' le hcc c hc => ?_) (fun h' le hcc _ c hc => hcc c ?_), h⟩
        · simp [TE.img, TV.rv, TR.r1, TC.pv, TB.slot, tthaw]
        · rcases List.mem_or_eq_of_mem_set hc with hc | rfl
          · exact le.cok (hbk c hc)
          · exact hcc _ (by simp [tthaw])
        · simpa [tthaw, TV.cs, TR.cs] using hc
      · rename_i c hn1 hn2 hc
        refine ⟨cs.map TC.pv, c.pv, rfl, by simp [hc], ?_⟩
        split
        · rename_i k l hp
          rcases TC.pv_vs hp with ⟨t, m, rfl, _⟩ | ⟨rfl, _⟩
          · exact (hn1 _ _ rfl).elim
          · exact (hn2 _ rfl).elim
        · exact fin1 hI (c := c) rfl (hbk c (List.mem_of_getElem? hc)) h
      · cases h
    · cases h
  · rename_i id v m e j hx
    obtain ⟨e1, k1⟩ := ev1_ok (n := n) hI hx (by simp)
    split at h
    · rename_i t v0 hv y pre row post memo hB
      have hlt := lt_of_tb hB (by simp)
      have hbk := hI.blks id
      rw [hB] at hbk
      obtain ⟨q1, q2, q3, q4, q5, q6⟩ := hbk
      have hs : (img n τ).slot id = .live ⟨0, t.sz, [], pre.map (enc t) ++ row.map TC.pv :: post.map (enc t)⟩ := by rw [img_slot, hB]; rfl
      split at h
      · rename_i hvv
        obtain rfl := Nat.eq_of_beq_eq_true hvv
        obtain ⟨rfl, rfl⟩ : m = pre.length + 1 + post.length ∧ e = pre.length := k1.2 _ _ (by rw [hB]; rfl)
        simp only [Prm, effK, e1, TC.pv, St.blk, hs]
        refine ⟨hole_len, ?_⟩
        have hrow : ∀ (c : TC) (u : List TC), bok P τ.h τ.g (.hole t v0 v y pre row post memo) → True := fun _ _ _ => trivial
        split at h
        · rename_i u l hc
          refine ⟨row.map TC.pv, .vs true u.sz (l.map (enc u)), hole_get, by simp [hc, TC.pv, SC.pv], img_fresh b hb, _, ?_, thaw_okE hI (id := id) (b' := b) (tb' := .hole t v0 v y pre (row.set j (.ref b τ.g l.length)) post none) (cs := [.c (.sl true u l)]) (v := .r (.one (.ref b τ.g l.length))) (by omega) hb (fun c hc => by simp at hc; subst hc; trivial) (fun v m hv e => by rw [hB]; exact e) (fun v m q hv e => by rw [hB]; exact e) (fun h' le hcc => ?_) (fun h' le hcc _ c hc => hcc c ?_), h⟩
          · simp [TE.img, TV.rv, TR.r1, TC.pv, TB.slot, tthaw, hole_set]
          · refine ⟨by omega, by omega, fun c hc => ?_, by simpa using q4, q5, by simp⟩
            rcases List.mem_or_eq_of_mem_set hc with hc | rfl
            · exact le.cok (q3 c hc)
            · exact hcc _ (by simp [tthaw])
          · simpa [tthaw, TV.cs, TR.cs] using hc
        · rename_i k hc
          refine ⟨row.map TC.pv, .vs true k [], hole_get, by simp [hc, TC.pv, SC.pv], img_fresh b hb, _, ?_, thaw_okE hI (id := id) (b' := b) (tb' := .hole t v0 v y pre (row.set j (.ref b τ.g 0)) post none) (cs := [.c (.nl true k)]) (v := .r (.one (.ref b τ.g 0))) (by omega) hb (fun c hc => by simp at hc; subst hc; trivial) (fun v m hv e => by rw [hB]; exact e) (fun v m q hv e => by rw [hB]; exact e) (fun h' le hcc => ?_) (fun h' le hcc _ c hc => hcc c ?_), h⟩
          · simp [TE.img, TV.rv, TR.r1, TC.pv, TB.slot, tthaw, hole_set]
          · refine ⟨by omega, by omega, fun c hc => ?_, by simpa using q4, q5, by simp⟩
            rcases List.mem_or_eq_of_mem_set hc with hc | rfl
            · exact le.cok (q3 c hc)
            · exact hcc _ (by simp [tthaw])
          · simpa [tthaw, TV.cs, TR.cs] using hc
        · rename_i c hn1 hn2 hc
          refine ⟨row.map TC.pv, c.pv, hole_get, by simp [hc], ?_⟩
          split
          · rename_i k l hp
            rcases TC.pv_vs hp with ⟨t, m, rfl, _⟩ | ⟨rfl, _⟩
            · exact (hn1 _ _ rfl).elim
            · exact (hn2 _ rfl).elim
          · exact fin1 hI (c := c) rfl (q3 c (List.mem_of_getElem? hc)) h
        · cases h
      · cases h
    · cases h
  · rename_i l j hx
    obtain ⟨e1, k1⟩ := ev1_ok (n := n) hI hx (by simp)
    split at h
    · rename_i x hx
      simp only [Prm, effK, e1, TC.pv]
      exact ⟨x.pv, by simp [hx], fin1 hI (c := .c x.sh) (by simp [TC.pv, SC.sh_pv]) trivial h⟩
    · cases h
  · cases h
end
section
variable {P : Program} {τ : TSt} {n b : Nat} {E : TE} {R : Type} {K : TE → Option R} {r : R}
theorem cok_take {h : List TB} {g : Nat} {cs : List TC} {j n : Nat} (k : ∀ c ∈ cs, cok P h g c) : ∀ c ∈ (cs.drop j).take n, cok P h g c :=
  fun c hc => k c (List.mem_of_mem_drop (List.mem_of_mem_take hc))
theorem p_ld (hI : Inv P τ) (hb : τ.h.length ≤ b) {et : Option Ty} {m : Nat} {x : Ix} (h : teff τ b et (.ld m x) K = some r) : Prm P n τ b (.ld m x) K r := by
  simp only [teff] at h
  split at h
  · rename_i id j hx
    obtain ⟨e1, k1⟩ := ev1_ok (n := n) hI hx (by simp)
    split at h
    · rename_i w cs hB
      have hlt := lt_of_tb hB (by simp)
      have hbk := hI.blks id
      rw [hB] at hbk
      have hbk : ∀ c ∈ cs, cok P τ.h τ.g c := hbk
      have hs : (img n τ).slot id = .live ⟨if w then 2 else 1, cs.length, [], [cs.map TC.pv]⟩ := by rw [img_slot, hB]; rfl
      split at h
      · rename_i hle
        have hle := Nat.le_of_ble_eq_true hle
        have hth := tthaw_ok τ.g b ((cs.drop j).take m)
        rw [List.map_take, List.map_drop] at hth
        simp only [Prm, effK, e1, TC.pv, St.blk, hs]
        refine ⟨rfl, cs.map TC.pv, rfl, by simpa using hle, ?_⟩
        rw [hth]
        split at h
        · rename_i l hl
          rw [hl]
          refine fin hI (v := .r (.agg ((cs.drop j).take m))) ?_ (fun c hc => cok_take hbk c hc) h
          simp [TV.rv, TR.r1, List.map_take, List.map_drop]
        · rename_i l ws hne hl
          have hl1 : (tthaw τ.g b ((cs.drop j).take m)).1 = l := by rw [hl]
          have hl2 : (tthaw τ.g b ((cs.drop j).take m)).2 = ws := by rw [hl]
          rw [hl]
          have hne' : ws ≠ [] := fun e => hne e
          split
          · rename_i e; injection e with e1 e2; exact (hne' (by simpa using e2)).elim
          · rename_i l' ws' _ e
            injection e with e1 e2
            subst e1 e2
            refine ⟨fun y hy => ?_, _, ?_, ?_, h⟩
            · obtain ⟨z, hz, rfl⟩ := List.mem_map.1 hy
              have := (tthaw_blk (show z ∈ (tthaw τ.g b ((cs.drop j).take m)).2 by rw [hl2]; exact hz)).1
              exact img_fresh _ (by simp only [wsl]; omega)
            · simp [TE.img, TV.rv, TR.r1, TB.slot, splice_map, wsl, Function.comp_def, splice_len, splice]
              have hll : l.length = min m (cs.length - j) := by rw [← hl1, tthaw_len]; simp
              omega
            · rw [← hl2]
              refine thaw_okE hI (id := id) (b' := b) (tb' := .var w (splice cs j l)) (cs := (cs.drop j).take m) (v := .r (.agg l)) (by omega) hb (cok_take hbk) (fun _ _ _ e => (var_vlen e).elim) (fun _ _ _ _ e => (var_hinf e).elim) (fun h' le hcc c hc => ?_) (fun h' le hcc _ c hc => hcc c ?_)
              · rcases mem_splice hc with hc | hc
                · exact le.cok (hbk c hc)
                · exact hcc _ (by rw [hl1]; exact hc)
              · rw [hl1]; exact hc
      · cases h
    · cases h
  · rename_i id v m' e j hx
    obtain ⟨e1, k1⟩ := ev1_ok (n := n) hI hx (by simp)
    split at h
    · rename_i t v0 hv y pre row post memo hB
      have hlt := lt_of_tb hB (by simp)
      have hbk := hI.blks id
      rw [hB] at hbk
      obtain ⟨q1, q2, q3, q4, q5, q6⟩ := hbk
      have hs : (img n τ).slot id = .live ⟨0, t.sz, [], pre.map (enc t) ++ row.map TC.pv :: post.map (enc t)⟩ := by rw [img_slot, hB]; rfl
      split at h
      · rename_i hvv hle
        have hle := Nat.le_of_ble_eq_true hle
        obtain rfl := Nat.eq_of_beq_eq_true hvv
        obtain ⟨rfl, rfl⟩ : m' = pre.length + 1 + post.length ∧ e = pre.length := k1.2 _ _ (by rw [hB]; rfl)
        have hth := tthaw_ok τ.g b ((row.drop j).take m)
        rw [List.map_take, List.map_drop] at hth
        simp only [Prm, effK, e1, TC.pv, St.blk, hs]
        refine ⟨hole_len, row.map TC.pv, hole_get, by simpa using hle, ?_⟩
        rw [hth]
        split at h
        · rename_i l hl
          rw [hl]
          refine fin hI (v := .r (.agg ((row.drop j).take m))) ?_ (fun c hc => cok_take q3 c hc) h
          simp [TV.rv, TR.r1, List.map_take, List.map_drop]
        · rename_i l ws hne hl
          have hl1 : (tthaw τ.g b ((row.drop j).take m)).1 = l := by rw [hl]
          have hl2 : (tthaw τ.g b ((row.drop j).take m)).2 = ws := by rw [hl]
          have hll : l.length = min m (row.length - j) := by rw [← hl1, tthaw_len]; simp
          rw [hl]
          have hne' : ws ≠ [] := fun e => hne e
          split
          · rename_i e; injection e with e1 e2; exact (hne' (by simpa using e2)).elim
          · rename_i l' ws' _ e
            injection e with e1 e2
            subst e1 e2
            refine ⟨fun y hy => ?_, _, ?_, ?_, h⟩
            · obtain ⟨z, hz, rfl⟩ := List.mem_map.1 hy
              have := (tthaw_blk (show z ∈ (tthaw τ.g b ((row.drop j).take m)).2 by rw [hl2]; exact hz)).1
              exact img_fresh _ (by simp only [wsl]; omega)
            · simp [TE.img, TV.rv, TR.r1, TB.slot, splice_map, wsl, Function.comp_def, hole_set]
            · rw [← hl2]
              refine thaw_okE hI (id := id) (b' := b) (tb' := .hole t v0 v y pre (splice row j l) post none) (cs := (row.drop j).take m) (v := .r (.agg l)) (by omega) hb (cok_take q3) (fun v m hv e => by rw [hB]; exact e) (fun v m q hv e => by rw [hB]; exact e) (fun h' le hcc => ?_) (fun h' le hcc _ c hc => hcc c ?_)
              · refine ⟨by omega, by omega, fun c hc => ?_, by rw [splice_len (by omega)]; exact q4, q5, by simp⟩
                rcases mem_splice hc with hc | hc
                · exact le.cok (q3 c hc)
                · exact hcc _ (by rw [hl1]; exact hc)
              · rw [hl1]; exact hc
      · cases h
    · cases h
  · rename_i l j hx
    obtain ⟨e1, k1⟩ := ev1_ok (n := n) hI hx (by simp)
    split at h
    · rename_i hle
      have hle := Nat.le_of_ble_eq_true hle
      simp only [Prm, effK, e1, TC.pv]
      refine ⟨by simpa using hle, fin hI (v := .r (.agg (((l.drop j).take m).map fun x => .c x.sh))) ?_ (fun c hc => ?_) h⟩
      · simp [TV.rv, TR.r1, TC.pv, SC.sh_pv, Function.comp_def, List.map_take, List.map_drop]
      · simp only [TV.cs, TR.cs, List.mem_map] at hc
        obtain ⟨z, _, rfl⟩ := hc; trivial
    · cases h
  · cases h
theorem p_st (hI : Inv P τ) {et : Option Ty} {m : Nat} {x y : Ix} (h : teff τ b et (.st m x y) K = some r) : Prm P n τ b (.st m x y) K r := by
  simp only [teff] at h
  split at h
  · rename_i id j ys hx hy
    obtain ⟨e1, k1⟩ := ev1_ok (n := n) hI hx (by simp)
    obtain ⟨e2, k2⟩ := cells_ok (n := n) hI hy
    split at h
    · rename_i w cs hB
      have hlt := lt_of_tb hB (by simp)
      have hbk := hI.blks id
      rw [hB] at hbk
      have hbk : ∀ c ∈ cs, cok P τ.h τ.g c := hbk
      have hs : (img n τ).slot id = .live ⟨if w then 2 else 1, cs.length, [], [cs.map TC.pv]⟩ := by rw [img_slot, hB]; rfl
      split at h
      · rename_i hn hle
        have hn := Nat.eq_of_beq_eq_true hn
        have hle := Nat.le_of_ble_eq_true hle
        simp only [Prm, effK, e1, TC.pv, St.blk, hs]
        refine ⟨rfl, cs.map TC.pv, ys.map TC.pv, rfl, e2, by simpa using hn, by simpa using hle, _, ?_, OkE.wr (v := .un) (wh := [(id, .var w (splice cs j ys))]) hI (Nat.le_refl _) (fun e he => ?_) (fun le e he => ?_) (fun _ c hc => by simp [TV.cs] at hc), h⟩
        · simp [TE.img, TV.rv, TB.slot, splice_map, splice_len]
          rw [splice_len (by omega)]
        · obtain rfl : e = (id, .var w (splice cs j ys)) := by simpa using he
          exact ⟨fun v m _ e => (var_vlen e).elim, fun v m q _ e => (var_hinf e).elim⟩
        · obtain rfl : e = (id, .var w (splice cs j ys)) := by simpa using he
          intro c hc
          rcases mem_splice hc with hc | hc
          · exact le.cok (hbk c hc)
          · exact le.cok (k2 c hc)
      · cases h
    · cases h
  · rename_i id v m' e j ys hx hy
    obtain ⟨e1, k1⟩ := ev1_ok (n := n) hI hx (by simp)
    obtain ⟨e2, k2⟩ := cells_ok (n := n) hI hy
    split at h
    · rename_i t v0 hv y pre row post memo hB
      have hbk := hI.blks id
      rw [hB] at hbk
      obtain ⟨q1, q2, q3, q4, q5, q6⟩ := hbk
      have hs : (img n τ).slot id = .live ⟨0, t.sz, [], pre.map (enc t) ++ row.map TC.pv :: post.map (enc t)⟩ := by rw [img_slot, hB]; rfl
      split at h
      · rename_i hvv hn hle
        have hn := Nat.eq_of_beq_eq_true hn
        have hle := Nat.le_of_ble_eq_true hle
        obtain rfl := Nat.eq_of_beq_eq_true hvv
        obtain ⟨rfl, rfl⟩ : m' = pre.length + 1 + post.length ∧ e = pre.length := k1.2 _ _ (by rw [hB]; rfl)
        simp only [Prm, effK, e1, TC.pv, St.blk, hs]
        refine ⟨hole_len, row.map TC.pv, ys.map TC.pv, hole_get, e2, by simpa using hn, by simpa using hle, _, ?_, OkE.wr (v := .un) (wh := [(id, .hole t v0 v y pre (splice row j ys) post none)]) hI (Nat.le_refl _) (fun e he => ?_) (fun le e he => ?_) (fun _ c hc => by simp [TV.cs] at hc), h⟩
        · simp [TE.img, TV.rv, TB.slot, splice_map, hole_set]
        · obtain rfl : e = (id, .hole t v0 v y pre (splice row j ys) post none) := by simpa using he
          exact ⟨fun v m _ e => by rw [hB]; exact e, fun v m q _ e => by rw [hB]; exact e⟩
        · obtain rfl : e = (id, .hole t v0 v y pre (splice row j ys) post none) := by simpa using he
          refine ⟨q1, q2, fun c hc => ?_, by rw [splice_len (by omega)]; exact q4, q5, by simp⟩
          rcases mem_splice hc with hc | hc
          · exact le.cok (q3 c hc)
          · exact le.cok (k2 c hc)
      · cases h
    · cases h
  · cases h
theorem toSC_ok : ∀ {l : List TC} {m : List SC}, toSC l = some m → l.map TC.pv = m.map SC.pv
  | [], m, h => by injection h with h; subst h; rfl
  | c :: l, m, h => by
    unfold toSC at h
    split at h
    · rename_i e; cases e
    · rename_i x r e
      injection e with e1 e2; subst e1 e2
      split at h
      · rename_i m' hm
        injection h with h; subst h
        simp [toSC_ok hm, TC.pv]
      · cases h
    · cases h
theorem toV_ok {t : Ty} {c : List TC} {x : List SC} {v : Den t} (h : toSC c = some x) (h2 : ofC true t x = some v) : c.map TC.pv = enc t v := by
  rw [toSC_ok h, ofC_ok h2, sho_t]
theorem toVs_ok {t : Ty} : ∀ {l : List (List TC)} {vs : List (Den t)}, toVs t l = some vs → l.map (fun c => c.map TC.pv) = vs.map (enc t)
  | [], vs, h => by injection h with h; subst h; rfl
  | c :: l, vs, h => by
    unfold toVs at h
    split at h
    · rename_i x hx
      split at h
      · rename_i v hv
        split at h
        · rename_i vs' hvs
          injection h with h; subst h
          simp only [List.map_cons, toVs_ok hvs]
          rw [toV_ok hx hv]
        · cases h
      · cases h
    · cases h
theorem setET_ok (hI : Inv P τ) {k : Nat} : ∀ {ps : List (Nat × Ix)} {l m : List (List TC)} {Q : List (List PV) → Prop}, setET k l τ ps = some m → (∀ c ∈ l, ∀ x ∈ c, cok P τ.h τ.g x) →
    (m.length = l.length → (∀ c ∈ m, ∀ x ∈ c, cok P τ.h τ.g x) → Q (m.map fun c => c.map TC.pv)) → setElems k (l.map fun c => c.map TC.pv) (img n τ) ps Q
  | [], l, m, Q, h, hz, hq => by injection h with h; subst h; exact hq rfl hz
  | (i, x) :: ps, l, m, Q, h, hz, hq => by
    simp only [setET] at h
    split at h
    · rename_i c hc
      split at h
      · rename_i h1 h2
        have h1 := Nat.eq_of_beq_eq_true h1
        have h2 := Nat.le_of_ble_eq_true h2
        obtain ⟨e1, k1⟩ := cells_ok (n := n) hI hc
        refine ⟨c.map TC.pv, e1, by simpa using h1, by simp; omega, ?_⟩
        have e : (l.map fun c => c.map TC.pv).set i (c.map TC.pv) = (l.set i c).map fun c => c.map TC.pv := by rw [List.map_set]
        rw [e]
        refine setET_ok hI h (fun c' hc' => ?_) (fun hl => hq (by simpa using hl))
        rcases List.mem_or_eq_of_mem_set hc' with hc' | rfl
        · exact hz c' hc'
        · exact k1
      · cases h
    · cases h
theorem img_sl {id v : Nat} {t : Ty} {l : List (Den t)} (h : tbAt τ.h id = .sl t v l) : (img n τ).slot id = .live ⟨0, t.sz, [], l.map (enc t)⟩ := by rw [img_slot, h]; rfl
theorem newRefT (hI : Inv P τ) {tb : TB} {m : Nat} {rd : List Nat} (hv : ∀ v k, vlen tb = some (v, k) → v = τ.g ∧ m = k) (hh : ∀ v k q, hinf tb = some (v, k, q) → v = τ.g) (hb : HLe τ.h τ.g (setT τ.h b tb) (τ.g + 1) → bok P (setT τ.h b tb) (τ.g + 1) tb) :
    OkE P τ { v := .r (.one (.ref b τ.g m)), wh := [(b, tb)], rd := rd, g := τ.g + 1 } := by
  refine newOk hI (Nat.le_succ _) (fun v k hlt e => by have := (hv v k e).1; omega) (fun v k q hlt e => by have := hh v k q e; omega) hb ⟨Nat.lt_succ_self _, fun k e => ?_⟩
  rw [tbAt_setT, if_pos rfl] at e
  exact (hv _ _ e).2
theorem p_bsl (hI : Inv P τ) (hb : τ.h.length ≤ b) {et : Option Ty} {k m : Nat} {zs : List PV} {ps : List (Nat × Ix)} (h : teff τ b et (.bsl k m zs ps) K = some r) :
    opK P (img n τ) b (.bsl k m zs ps) fun E => ∃ te, E = te.img ∧ OkE P τ te ∧ K te = some r := by
  simp only [teff] at h
  split at h
  · rename_i t cs hcs
    obtain ⟨rfl, k1⟩ := ofConsts_ok (P := P) hcs
    split at h
    · rename_i l hl hk
      obtain rfl := Nat.eq_of_beq_eq_true hk
      have hrep : List.replicate m (cs.map TC.pv) = (List.replicate m cs).map fun c => c.map TC.pv := by simp
      split at h
      · split at h
        · rename_i vs hvs
          refine .inl ?_
          simp only [effK]
          refine ⟨img_fresh b hb, ?_⟩
          rw [hrep]
          have hz : ∀ c ∈ List.replicate m cs, ∀ x ∈ c, cok P τ.h τ.g x := fun c hc x hx => by
            rw [List.eq_of_mem_replicate hc] at hx; exact k1 x hx _ _
          refine setET_ok hI hl hz fun hlen _ => ⟨_, ?_, newRefT hI (tb := .sl t τ.g vs) (m := m) (fun v q e => ?_) (fun _ _ _ e => by simp [hinf] at e) (fun _ => Nat.lt_succ_self _), h⟩
          · rw [toVs_ok hvs]; rfl
          · simp only [vlen, Option.some.injEq, Prod.mk.injEq] at e
            refine ⟨e.1.symm, ?_⟩
            have := congrArg List.length (toVs_ok hvs)
            simp at this hlen
            omega
        · cases h
      · rename_i hf
        have hm : m = 1 := by
          simp only [Bool.or_eq_false_iff, Bool.not_eq_eq_eq_not, Bool.not_false] at hf
          exact Nat.eq_of_beq_eq_true hf.2
        subst hm
        split at h
        · rename_i row
          split at h
          · rename_i hrl
            have hrl := Nat.eq_of_beq_eq_true hrl
            refine .inr ⟨rfl, ?_⟩
            have hz : ∀ c ∈ List.replicate 1 cs, ∀ x ∈ c, cok P τ.h τ.g x := fun c hc x hx => by
              rw [List.eq_of_mem_replicate hc] at hx; exact k1 x hx _ _
            simp only [bslT, effK]
            refine ⟨img_fresh b hb, ?_⟩
            rw [hrep]
            refine setET_ok hI hl hz fun hlen hck => ?_
            have hth := tthaw_ok τ.g (b + 1) row
            refine ⟨[], row.map TC.pv, rfl, ?_, ?_⟩
            · rw [hth]
              intro y hy
              obtain ⟨z, hz, rfl⟩ := List.mem_map.1 hy
              have := (tthaw_blk hz).1
              exact ⟨img_fresh _ (by simp only [wsl]; omega), by simp only [wsl]; omega⟩
            · rw [hth]
              have hbf : tbAt τ.h b = .fresh := tbAt_ge _ _ hb
              refine ⟨_, ?_, thaw_okE hI (id := b) (b' := b + 1) (tb' := .hole t τ.g τ.g 0 [] (tthaw τ.g (b + 1) row).1 [] none) (cs := row) (v := .r (.one (.ref b τ.g 1))) (Nat.lt_succ_self _) (by omega) (hck row (by simp)) (fun v m hv e => by simp [vlen] at e; omega) (fun v m q hv e => by simp [hinf] at e; omega) (fun h' le hcc => ?_) (fun h' le hcc e c hc => ?_), h⟩
              · simp [TE.img, TV.rv, TR.r1, TC.pv, TB.slot, wsl]
              · exact ⟨Nat.lt_succ_self _, Nat.lt_succ_self _, hcc, by rw [tthaw_len]; exact hrl, ⟨by omega, by simp⟩, by simp⟩
              · have : c = .ref b τ.g 1 := by simpa [TV.cs, TR.cs] using hc
                subst this
                refine ⟨Nat.lt_succ_self _, fun m' e' => ?_⟩
                rw [e] at e'
                simp [vlen] at e'; omega
          · cases h
        · cases h
    · cases h
  · cases h
theorem p_mks (hI : Inv P τ) (hb : τ.h.length ≤ b) {et : Option Ty} {k bytes : Nat} {zs : List PV} {x : Ix} (h : teff τ b et (.mks k bytes zs x) K = some r) : Prm P n τ b (.mks k bytes zs x) K r := by
  simp only [teff] at h
  split at h
  · rename_i t cs m hcs hx
    obtain ⟨rfl, k1⟩ := ofConsts_ok (P := P) hcs
    obtain ⟨e1, _⟩ := ev1_ok (n := n) hI hx (by simp)
    split at h
    · rename_i z hz hk
      obtain rfl := Nat.eq_of_beq_eq_true hk
      obtain ⟨⟨g1, g2, g3⟩, h⟩ := gd_some h
      have e := toVs_ok hz
      simp only [List.map_cons, List.map_nil, List.cons.injEq, and_true] at e
      simp only [Prm, effK, e1, TC.pv, SC.pv]
      refine ⟨img_fresh b hb, g1, g2, g3, _, ?_, newRefT hI (tb := .sl t τ.g (List.replicate m.toNat z)) (m := m.toNat) (fun v q e => ?_) (fun _ _ _ e => by simp [hinf] at e) (fun _ => Nat.lt_succ_self _), h⟩
      · simp [TE.img, TV.rv, TR.r1, TC.pv, TB.slot, e]
      · simp only [vlen, Option.some.injEq, Prod.mk.injEq, List.length_replicate] at e
        exact ⟨e.1.symm, e.2⟩
    · cases h
  · cases h
end
section
variable {P : Program} {τ : TSt} {n b : Nat} {E : TE} {R : Type} {K : TE → Option R} {r : R}
def bdP (σ : St) (o : Option Ix) (d : Nat) (Q : Nat → Prop) : Prop :=
  match o with
  | none => Q d
  | some y => match σ.ev1 y with
    | .i _ m => 0 ≤ m ∧ Q m.toNat
    | _ => False
theorem bdT_ok (hI : Inv P τ) {o : Option Ix} {d : Nat} {F : Nat → Option R} {Q : Nat → Prop} (h : bdT τ o d F = some r) (hq : ∀ m, F m = some r → Q m) : bdP (img n τ) o d Q := by
  unfold bdT at h
  split at h
  · exact hq _ h
  · split at h
    · rename_i k m hx
      obtain ⟨e1, _⟩ := ev1_ok (n := n) hI hx (by simp)
      obtain ⟨h0, h⟩ := gd_some h
      simp only [bdP, e1, TC.pv, SC.pv]
      exact ⟨h0, hq _ h⟩
    · cases h
theorem effK_slc {σ : St} {k : Nat} {x : Ix} {lo hi : Option Ix} {Q : Eff → Prop} : effK σ b (.slc k x lo hi) Q =
    match σ.ev1 x with
    | .ref id l0 len full => σ.blk id full fun B => B.k = k ∧ bdP σ hi len fun h => bdP σ lo 0 fun l => l ≤ h ∧ h ≤ len ∧ Q { v := .r (.one (.ref id (l0 + l) (h - l) full)), rd := [id] }
    | .vs o k' l0 => (o = false ∨ l0 = []) ∧ (k' = k ∨ l0 = []) ∧ bdP σ hi l0.length fun h => bdP σ lo 0 fun l => l ≤ h ∧ h ≤ l0.length ∧ Q { v := .r (.one (.vs false k ((l0.drop l).take (h - l)))) }
    | _ => False := rfl
theorem p_slc (hI : Inv P τ) {et : Option Ty} {k : Nat} {x : Ix} {lo hi : Option Ix} (h : teff τ b et (.slc k x lo hi) K = some r) : Prm P n τ b (.slc k x lo hi) K r := by
  simp only [teff, slcT] at h
  split at h
  · rename_i id v m hx
    obtain ⟨e1, k1⟩ := ev1_ok (n := n) hI hx (by simp)
    have key : ∀ {B : Blk}, (img n τ).slot id = .live B → B.l.length = m → B.k = k → (bdT τ hi m fun h => bdT τ lo 0 fun l => gd (l ≤ h ∧ h ≤ m) (K { v := .r (.one (.part id v l (h - l) m)), rd := [id], g := τ.g })) = some r → Prm P n τ b (.slc k x lo hi) K r := by
      intro B hs hl hk h
      simp only [Prm, effK_slc, e1, TC.pv, St.blk, hs]
      refine ⟨hl, hk, ?_⟩
      refine bdT_ok (n := n) hI h fun a h => ?_
      refine bdT_ok (n := n) hI h fun c h => ?_
      obtain ⟨⟨g1, g2⟩, h⟩ := gd_some h
      exact ⟨g1, g2, fin1 hI (c := .part id v c (a - c) m) (by simp [TC.pv]) ⟨k1, by omega⟩ h⟩
    split at h
    · rename_i v' k' hB
      split at h
      · rename_i hv hk
        obtain rfl := Nat.eq_of_beq_eq_true hv
        obtain rfl := Nat.eq_of_beq_eq_true hk
        refine key (by rw [img_slot, hB]; rfl) ?_ rfl h
        exact (k1.2 _ (by rw [hB]; rfl)).symm
      · cases h
    · rename_i t v' l hB
      split at h
      · rename_i hv hk
        obtain rfl := Nat.eq_of_beq_eq_true hv
        obtain rfl := Nat.eq_of_beq_eq_true hk
        refine key (by rw [img_slot, hB]; rfl) ?_ rfl h
        rw [List.length_map]
        exact (k1.2 _ (by rw [hB]; rfl)).symm
      · cases h
    · cases h
  · rename_i t l0 hx
    obtain ⟨e1, k1⟩ := ev1_ok (n := n) hI hx (by simp)
    split at h
    · rename_i hk
      obtain rfl := Nat.eq_of_beq_eq_true hk
      simp only [Prm, effK_slc, e1, TC.pv, SC.pv]
      refine ⟨.inl (by simp), .inl (by simp), ?_⟩
      rw [List.length_map]
      refine bdT_ok (n := n) hI h fun a h => ?_
      refine bdT_ok (n := n) hI h fun c h => ?_
      obtain ⟨⟨g1, g2⟩, h⟩ := gd_some h
      refine ⟨g1, g2, fin1 hI (c := .c (.sl false t ((l0.drop c).take (a - c)))) ?_ trivial h⟩
      simp [TC.pv, SC.pv, List.map_take, List.map_drop]
    · cases h
  · rename_i o k' hx
    obtain ⟨e1, k1⟩ := ev1_ok (n := n) hI hx (by simp)
    simp only [Prm, effK_slc, e1, TC.pv, SC.pv]
    refine ⟨.inr (by simp), .inr (by simp), ?_⟩
    refine bdT_ok (n := n) hI h fun a h => ?_
    refine bdT_ok (n := n) hI h fun c h => ?_
    obtain ⟨⟨g1, g2⟩, h⟩ := gd_some h
    refine ⟨g1, g2, fin1 hI (c := .c (.nl false k)) ?_ trivial h⟩
    simp [TC.pv, SC.pv]
  · cases h
theorem whole_ok {t : Ty} {tb : TB} {v : Nat} {l : List (Den t)} {h : List TB} {g : Nat} (hb : bok P h g tb) (hw : whole t tb = some (v, l)) : tb.slot = .live ⟨0, t.sz, [], l.map (enc t)⟩ ∧ vlen tb = some (v, l.length) := by
  unfold whole at hw
  split at hw
  · split at hw
    · rename_i hk
      have := Nat.eq_of_beq_eq_true hk
      simp only [Option.some.injEq, Prod.mk.injEq] at hw
      obtain ⟨rfl, rfl⟩ := hw
      simp [TB.slot, vlen, this]
    · cases hw
  · split at hw
    · rename_i m hm
      obtain ⟨e1, e2⟩ := asL_ok hm
      simp only [Option.some.injEq, Prod.mk.injEq] at hw
      obtain ⟨rfl, rfl⟩ := hw
      have := congrArg List.length e2
      simp at this
      simp [TB.slot, vlen, e1, e2, this]
    · cases hw
  · rename_i u v' hv y pre row post memo
    obtain ⟨q1, q2, q3, q4, q5, q6⟩ := hb
    split at hw
    · rename_i l0
      split at hw
      · rename_i m hm
        obtain ⟨e1, e2⟩ := asL_ok hm
        simp only [Option.some.injEq, Prod.mk.injEq] at hw
        obtain ⟨rfl, rfl⟩ := hw
        have q := q6 _ rfl
        have := congrArg List.length q
        have := congrArg List.length e2
        simp at *
        refine ⟨?_, by simp [vlen]; omega⟩
        simp [TB.slot, e1, ← e2, q]
      · cases hw
    · split at hw
      · rename_i x hx
        split at hw
        · rename_i e he
          split at hw
          · rename_i m hm
            obtain ⟨e1, e2⟩ := asL_ok hm
            simp only [Option.some.injEq, Prod.mk.injEq] at hw
            obtain ⟨rfl, rfl⟩ := hw
            have := congrArg List.length e2
            simp at this
            refine ⟨?_, by simp [vlen]; omega⟩
            simp [TB.slot, e1, ← e2, toV_ok hx he]
          · cases hw
        · cases hw
      · cases hw
  · cases hw
theorem take_mid {α : Type} {l : List α} {i : Nat} {x : α} (h : l[i]? = some x) : l = l.take i ++ x :: l.drop (i + 1) := by
  obtain ⟨hi, rfl⟩ := List.getElem?_eq_some_iff.1 h
  rw [← List.drop_eq_getElem_cons hi, List.take_append_drop]
theorem p_ia_go (hI : Inv P τ) {id v m k : Nat} {x : Int} {t : Ty} {l : List (Den t)} {e : Den t} (hs : (tbAt τ.h id).slot = .live ⟨0, t.sz, [], l.map (enc t)⟩) (hl : vlen (tbAt τ.h id) = some (v, l.length)) (hm : m = l.length)
    (h0 : 0 ≤ x) (hx : l[x.toNat]? = some e) : OkE P τ { v := .r (.one (.hp id τ.g m x.toNat 0)), up := [(id, .hole t v τ.g x (l.take x.toNat) ((cells t e).map .c) (l.drop (x.toNat + 1)) (some l))], rd := [id], g := τ.g + 1 } := by
  have hlt : x.toNat < l.length := (List.getElem?_eq_some_iff.1 hx).1
  have hid : id < τ.h.length := tbAt_lt (by intro e; rw [e] at hs; cases hs)
  have hmid := take_mid hx
  have hrow : ((cells t e).map TC.c).map TC.pv = enc t e := by
    rw [List.map_map, ← cells_pv]; rfl
  have hmap : l.map (enc t) = (l.take x.toNat).map (enc t) ++ enc t e :: (l.drop (x.toNat + 1)).map (enc t) := by
    conv => lhs; rw [hmid]
    simp
  have hll : (l.take x.toNat).length + 1 + (l.drop (x.toNat + 1)).length = l.length := by simp; omega
  have hpre : (l.take x.toNat).length = x.toNat := by simp; omega
  have hvb : v < τ.g := by
    have := hI.blks id
    revert this hl
    cases tbAt τ.h id with
    | nb v' k => intro hl; simp [vlen] at hl; obtain ⟨rfl, _⟩ := hl; exact fun k => k
    | sl u v' l' => intro hl; simp [vlen] at hl; obtain ⟨rfl, _⟩ := hl; exact fun k => k
    | hole u v' _ _ _ _ _ _ => intro hl; simp [vlen] at hl; obtain ⟨rfl, _⟩ := hl; exact fun k => k.1
    | _ => intro hl; simp [vlen] at hl
  have le : HLe τ.h τ.g (setT τ.h id (.hole t v τ.g x (l.take x.toNat) ((cells t e).map .c) (l.drop (x.toNat + 1)) (some l))) (τ.g + 1) := by
    refine ⟨Nat.le_succ _, fun i v' m' hv' e' => ?_, fun i v' m' q hv' e' => ?_⟩
    · rw [tbAt_setT] at e'
      by_cases hi : i = id
      · subst hi
        rw [if_pos rfl] at e'
        simp only [vlen, hll] at e'
        rw [hl]; exact e'
      · rwa [if_neg hi] at e'
    · rw [tbAt_setT] at e'
      by_cases hi : i = id
      · subst hi
        rw [if_pos rfl] at e'
        simp [hinf] at e'
        omega
      · rwa [if_neg hi] at e'
  refine ⟨fun c hc => ?_, le, fun i => ?_, ?_⟩
  · have : c = .hp id τ.g m x.toNat 0 := by simpa [TV.cs, TR.cs] using hc
    subst this
    refine ⟨Nat.lt_succ_self _, fun m' q e' => ?_⟩
    have e' : hinf (tbAt (setT τ.h id _) id) = _ := e'
    rw [tbAt_setT, if_pos rfl] at e'
    simp only [hinf, hll, hpre, Option.some.injEq, Prod.mk.injEq, true_and] at e'
    omega
  · show bok P _ _ (tbAt (setT τ.h id _) i)
    rw [tbAt_setT]
    by_cases hi : i = id
    · rw [if_pos hi]
      refine ⟨by show v < τ.g + 1; omega, Nat.lt_succ_self _, fun c hc => ?_, by simp [cells_len], ⟨h0, hpre⟩, fun l' hl' => ?_⟩
      · obtain ⟨z, _, rfl⟩ := List.mem_map.1 hc; trivial
      · injection hl' with hl'; subst hl'
        rw [hrow]; exact hmap
    · rw [if_neg hi]; exact le.bok (hI.blks i)
  · show (setT τ.h id _).map TB.slot = τ.h.map TB.slot
    refine setT_same _ _ _ hid ?_
    rw [hs]
    simp only [TB.slot, hrow, hmap]
theorem p_ia (hI : Inv P τ) {et : Option Ty} {k : Nat} {x y : Ix} (h : teff τ b et (.ia k x y) K = some r) : Prm P n τ b (.ia k x y) K r := by
  simp only [teff] at h
  split at h
  · rename_i id v m k0 z hx hy
    obtain ⟨e1, k1⟩ := ev1_ok (n := n) hI hx (by simp)
    obtain ⟨e2, _⟩ := ev1_ok (n := n) hI hy (by simp)
    have go : ∀ (t : Ty) (v' : Nat) (l : List (Den t)), (tbAt τ.h id).slot = .live ⟨0, t.sz, [], l.map (enc t)⟩ → vlen (tbAt τ.h id) = some (v', l.length) →
        (match Nat.beq v v', Nat.beq t.sz k with
        | true, true => bd (ix l z) fun e => K { v := .r (.one (.hp id τ.g m z.toNat 0)), up := [(id, .hole t v τ.g z (l.take z.toNat) ((cells t e).map .c) (l.drop (z.toNat + 1)) (some l))], rd := [id], g := τ.g + 1 }
        | _, _ => none) = some r → Prm P n τ b (.ia k x y) K r := by
      intro t v' l hs hl h9
      split at h9
      · rename_i hv hk
        obtain rfl := Nat.eq_of_beq_eq_true hv
        obtain rfl := Nat.eq_of_beq_eq_true hk
        obtain ⟨e, he, h9⟩ := bd_some h9
        obtain ⟨h0, he⟩ := ix_some he
        have hm : m = l.length := k1.2 _ hl
        have hs' : (img n τ).slot id = .live ⟨0, t.sz, [], l.map (enc t)⟩ := by rw [img_slot, hs]
        simp only [Prm, effK, e1, e2, TC.pv, SC.pv, St.blk, hs']
        have hlt : z.toNat < l.length := (List.getElem?_eq_some_iff.1 he).1
        refine ⟨by simp [hm], trivial, h0, by omega, _, ?_, p_ia_go hI (v := v) hs hl hm h0 he (k := 0), h9⟩
        simp [TE.img, TV.rv, TR.r1, TC.pv]
      · cases h9
    simp only [iaT] at h
    split at h
    · rename_i t v' l hB
      refine go t v' l (by rw [hB]; rfl) (by rw [hB]; rfl) ?_
      split at h
      · rename_i hv hk
        rw [hv, hk]
        have := Nat.eq_of_beq_eq_true hv; subst this
        exact h
      · cases h
    · rename_i t v' hv y0 pre row post memo hB
      have hbk := hI.blks id
      rw [hB] at hbk
      have hbk2 := hbk
      obtain ⟨q1, q2, q3, q4, q5, q6⟩ := hbk
      have hs : (img n τ).slot id = .live ⟨0, t.sz, [], pre.map (enc t) ++ row.map TC.pv :: post.map (enc t)⟩ := by rw [img_slot, hB]; rfl
      have same : (match Nat.beq v v', Nat.beq t.sz k with
        | true, true => gd (z = y0) (K { v := .r (.one (.hp id hv m pre.length 0)), rd := [id], g := τ.g })
        | _, _ => none) = some r → Prm P n τ b (.ia k x y) K r := by
        intro h9
        split at h9
        · rename_i hvv hk
          obtain rfl := Nat.eq_of_beq_eq_true hvv
          obtain rfl := Nat.eq_of_beq_eq_true hk
          obtain ⟨hz, h8⟩ := gd_some h9
          subst hz
          have hm : m = pre.length + 1 + post.length := k1.2 _ (by rw [hB]; rfl)
          simp only [Prm, effK, e1, e2, TC.pv, SC.pv, St.blk, hs]
          refine ⟨by rw [hole_len]; exact hm.symm, trivial, q5.1, by omega, fin1 hI (c := .hp id hv m pre.length 0) ?_ ⟨q2, fun m' q e => ?_⟩ h8⟩
          · simp [TC.pv, q5.2]
          · rw [hB] at e
            simp only [hinf, Option.some.injEq, Prod.mk.injEq, true_and] at e
            omega
        · cases h9
      split at h
      · exact same h
      · split at h
        · rename_i v'' l hw
          obtain ⟨w1, w2⟩ := whole_ok hbk2 hw
          have : v'' = v' := by
            simp only [vlen, Option.some.injEq, Prod.mk.injEq] at w2
            exact w2.1.symm
          subst this
          refine go t v'' l (by rw [hB]; exact w1) (by rw [hB]; exact w2) ?_
          split at h
          · rename_i hv hk
            rw [hv, hk]
            have := Nat.eq_of_beq_eq_true hv; subst this
            exact h
          · cases h
        · exact same h
    · cases h
  · rename_i t l k0 z hx hy
    obtain ⟨e1, k1⟩ := ev1_ok (n := n) hI hx (by simp)
    obtain ⟨e2, _⟩ := ev1_ok (n := n) hI hy (by simp)
    split at h
    · rename_i hk
      obtain rfl := Nat.eq_of_beq_eq_true hk
      obtain ⟨e, he, h⟩ := bd_some h
      obtain ⟨h0, he⟩ := ix_some he
      simp only [Prm, effK, e1, e2, TC.pv, SC.pv]
      refine ⟨h0, trivial, trivial, enc t e, by simp [he], fin1 hI (c := .rp (cells t e) 0) ?_ trivial h⟩
      simp [TC.pv, cells_pv]
    · cases h
  · cases h
end
section
variable {P : Program} {τ : TSt} {n b : Nat} {E : TE} {R : Type} {K : TE → Option R} {r : R}
def srcP (σ : St) (k : Nat) (y : PV) (Q : List (List PV) → List Nat → Prop) : Prop :=
  match y with
  | .ref id lo len full => σ.blk id full fun B => B.k = k ∧ (∀ c ∈ B.l, ∀ p ∈ c, p.free = true) ∧ Q ((B.l.drop lo).take len) [id]
  | .vs o k' l => (o = false ∨ l = []) ∧ (k' = k ∨ l = []) ∧ Q (l.map fun c => c.map PV.sh) []
  | _ => False
theorem effK_app {σ : St} {k bytes : Nat} {x y : Ix} {Q : Eff → Prop} : effK σ b (.app k bytes x y) Q =
    match σ.ev1 x with
    | .ref id 0 len full => len = full ∧ σ.blk id full fun B => B.k = k ∧ srcP σ k (σ.ev1 y) fun ys rd => (len + ys.length) * bytes ≤ 140737488355328 ∧ (∀ c ∈ ys, c.length = k) ∧
        Q { v := .r (.one (.ref id 0 (len + ys.length) (len + ys.length))), wh := [(id, .live { B with kids := [], l := B.l ++ ys })], rd := id :: rd }
    | .vs true _ [] => σ.slot b = .fresh ∧ srcP σ k (σ.ev1 y) fun ys rd => ys.length * bytes ≤ 140737488355328 ∧ (∀ c ∈ ys, c.length = k) ∧
        Q { v := .r (.one (.ref b 0 ys.length ys.length)), wh := [(b, .live ⟨0, k, [], ys⟩)], rd := rd }
    | _ => False := rfl
def Srd.pv : Srd → List (List PV)
  | .els t l _ => l.map (enc t)
  | .row _ cs _ => [cs.map TC.pv]
  | .nil _ => []
def Srd.rd : Srd → List Nat
  | .els _ _ rd => rd
  | .row _ _ rd => rd
  | .nil rd => rd
theorem freeR_ok : ∀ {row : List TC}, freeR row = true → ∀ p ∈ row.map TC.pv, p.free = true
  | [], _, p, hp => by simp at hp
  | c :: row, h, p, hp => by
    unfold freeR at h
    split at h
    · rename_i e; cases e
    · cases h
    · cases h
    · rename_i c' r h1 h2 e
      injection e with e1 e2; subst e1 e2
      simp only [List.map_cons, List.mem_cons] at hp
      rcases hp with rfl | hp
      · cases c with
        | c x =>
          cases x with
          | sl o t l => cases o <;> first | rfl | exact (h1 _ _ rfl).elim
          | nl o k => cases o <;> first | rfl | exact (h2 _ rfl).elim
          | _ => rfl
        | _ => rfl
      · exact freeR_ok h p hp
theorem srcT_ok (hI : Inv P τ) {k : Nat} {y : Ix} {s : Srd} {Q : List (List PV) → List Nat → Prop} (h : srcT τ k (τ.ev1 y) = some s)
    (hq : (∀ c ∈ s.pv, c.length = k) → (∀ t row rd, s = .row t row rd → (∀ c ∈ row, cok P τ.h τ.g c) ∧ row.length = t.sz) → Q s.pv s.rd) : srcP (img n τ) k ((img n τ).ev1 y) Q := by
  unfold srcT at h
  split at h
  · rename_i id v m hy
    obtain ⟨e1, k1⟩ := ev1_ok (n := n) hI hy (by simp)
    rw [e1]
    split at h
    · rename_i v' k' hB
      split at h
      · rename_i hv hk
        obtain rfl := Nat.eq_of_beq_eq_true hv
        obtain rfl := Nat.eq_of_beq_eq_true hk
        injection h with h; subst h
        have hm : m = 0 := k1.2 _ (by rw [hB]; rfl)
        subst hm
        have hs : (img n τ).slot id = .live ⟨0, k', [], []⟩ := by rw [img_slot, hB]; rfl
        simp only [srcP, TC.pv, St.blk, hs]
        exact ⟨rfl, trivial, by simp, hq (by simp [Srd.pv]) (by simp)⟩
      · cases h
    · rename_i t v' l hB
      split at h
      · rename_i hv hf hk
        obtain rfl := Nat.eq_of_beq_eq_true hv
        obtain rfl := Nat.eq_of_beq_eq_true hk
        injection h with h; subst h
        have hm : m = l.length := k1.2 _ (by rw [hB]; rfl)
        subst hm
        have hs : (img n τ).slot id = .live ⟨0, t.sz, [], l.map (enc t)⟩ := by rw [img_slot, hB]; rfl
        simp only [srcP, TC.pv, St.blk, hs]
        refine ⟨by simp, trivial, fun c hc p hp => ?_, ?_⟩
        · obtain ⟨v, _, rfl⟩ := List.mem_map.1 hc
          exact enc_fr t hf v p hp
        · have e : ((l.map (enc t)).drop 0).take l.length = l.map (enc t) := by rw [List.drop_zero, List.take_of_length_le (by simp)]
          rw [e]
          refine hq (fun c hc => ?_) (by simp)
          obtain ⟨v, _, rfl⟩ := List.mem_map.1 hc
          exact enc_len t v
      · cases h
    · rename_i t v' hv y0 row memo hB
      split at h
      · rename_i hvv hf hk
        obtain rfl := Nat.eq_of_beq_eq_true hvv
        obtain rfl := Nat.eq_of_beq_eq_true hk
        injection h with h; subst h
        have hbk := hI.blks id
        rw [hB] at hbk
        obtain ⟨q1, q2, q3, q4, q5, q6⟩ := hbk
        have hm : m = 1 := k1.2 _ (by rw [hB]; rfl)
        subst hm
        have hs : (img n τ).slot id = .live ⟨0, t.sz, [], [row.map TC.pv]⟩ := by rw [img_slot, hB]; rfl
        simp only [srcP, TC.pv, St.blk, hs]
        refine ⟨rfl, trivial, fun c hc p hp => ?_, hq ?_ ?_⟩
        · obtain rfl := List.mem_singleton.1 hc
          exact freeR_ok hf p hp
        · intro c hc
          obtain rfl := List.mem_singleton.1 hc
          simpa using q4
        · rintro t' row' rd' e
          injection e with e1 e2 e3; subst e1 e2
          exact ⟨q3, q4⟩
      · cases h
    · cases h
  · rename_i id v lo len m hy
    obtain ⟨e1, k1⟩ := ev1_ok (n := n) hI hy (by simp)
    rw [e1]
    split at h
    · rename_i t v' l hB
      split at h
      · rename_i hv hf hk
        obtain rfl := Nat.eq_of_beq_eq_true hv
        obtain rfl := Nat.eq_of_beq_eq_true hk
        injection h with h; subst h
        have hm : m = l.length := k1.1.2 _ (by rw [hB]; rfl)
        subst hm
        have hs : (img n τ).slot id = .live ⟨0, t.sz, [], l.map (enc t)⟩ := by rw [img_slot, hB]; rfl
        simp only [srcP, TC.pv, St.blk, hs]
        refine ⟨by simp, trivial, fun c hc p hp => ?_, ?_⟩
        · obtain ⟨v, _, rfl⟩ := List.mem_map.1 hc
          exact enc_fr t hf v p hp
        · have e : ((l.map (enc t)).drop lo).take len = ((l.drop lo).take len).map (enc t) := by rw [List.map_take, List.map_drop]
          rw [e]
          refine hq (fun c hc => ?_) (by simp)
          obtain ⟨v, _, rfl⟩ := List.mem_map.1 hc
          exact enc_len t v
      · cases h
    · cases h
  · rename_i t l hy
    obtain ⟨e1, k1⟩ := ev1_ok (n := n) hI hy (by simp)
    rw [e1]
    split at h
    · rename_i hf hk
      obtain rfl := Nat.eq_of_beq_eq_true hk
      injection h with h; subst h
      simp only [srcP, TC.pv, SC.pv]
      refine ⟨.inl (by simp), .inl (by simp), ?_⟩
      have e : ((l.map (enc t)).map fun c => c.map PV.sh) = l.map (enc t) := by simp [Function.comp_def, enc_sh t hf]
      rw [e]
      refine hq (fun c hc => ?_) (by simp)
      obtain ⟨v, _, rfl⟩ := List.mem_map.1 hc
      exact enc_len t v
    · cases h
  · rename_i o k' hy
    obtain ⟨e1, k1⟩ := ev1_ok (n := n) hI hy (by simp)
    rw [e1]
    injection h with h; subst h
    simp only [srcP, TC.pv, SC.pv]
    exact ⟨.inr trivial, .inr trivial, hq (by simp [Srd.pv]) (by simp)⟩
  · cases h
theorem oldRef (hI : Inv P τ) {id : Nat} {tb : TB} {m : Nat} {rd : List Nat} (hv : ∀ v k, vlen tb = some (v, k) → v = τ.g ∧ m = k) (hh : ∀ v k q, hinf tb = some (v, k, q) → v = τ.g) (hb : HLe τ.h τ.g (setT τ.h id tb) (τ.g + 1) → bok P (setT τ.h id tb) (τ.g + 1) tb) :
    OkE P τ { v := .r (.one (.ref id τ.g m)), wh := [(id, tb)], rd := rd, g := τ.g + 1 } := newRefT hI hv hh hb
theorem vlen_sl {t : Ty} {g : Nat} {l : List (Den t)} {m : Nat} (hm : m = l.length) : ∀ v k, vlen (.sl t g l) = some (v, k) → v = g ∧ m = k := by
  intro v k e
  simp only [vlen, Option.some.injEq, Prod.mk.injEq] at e
  omega
theorem hinf_sl {t : Ty} {g : Nat} {l : List (Den t)} : ∀ v k q, hinf (.sl t g l) = some (v, k, q) → v = g := by
  intro v k q e; simp [hinf] at e
theorem p_app (hI : Inv P τ) (hb : τ.h.length ≤ b) {et : Option Ty} {k bytes : Nat} {x y : Ix} (h : teff τ b et (.app k bytes x y) K = some r) : Prm P n τ b (.app k bytes x y) K r := by
  simp only [teff, appT] at h
  split at h
  · rename_i id v m hx
    obtain ⟨e1, k1⟩ := ev1_ok (n := n) hI hx (by simp)
    have key : ∀ {t : Ty} {v' : Nat} {l : List (Den t)} {s : Srd} {Q : List (List PV) → List Nat → Prop}, whole t (tbAt τ.h id) = some (v', l) → v = v' → t.sz = k → srcT τ k (τ.ev1 y) = some s →
        ((∀ c ∈ s.pv, c.length = k) → (∀ t row rd, s = .row t row rd → (∀ c ∈ row, cok P τ.h τ.g c) ∧ row.length = t.sz) →
          (l.length + s.pv.length) * bytes ≤ 140737488355328 ∧ ∃ te, ({ v := .r (.one (.ref id 0 (l.length + s.pv.length) (l.length + s.pv.length))), wh := [(id, .live ⟨0, t.sz, [], l.map (enc t) ++ s.pv⟩)], rd := id :: s.rd } : Eff) = te.img ∧ OkE P τ te ∧ K te = some r) → Prm P n τ b (.app k bytes x y) K r := by
      intro t v' l s Q hw hv hk hsrc hgo
      subst hv hk
      obtain ⟨w1, w2⟩ := whole_ok (hI.blks id) hw
      have hm : m = l.length := k1.2 _ w2
      subst hm
      have hs : (img n τ).slot id = .live ⟨0, t.sz, [], l.map (enc t)⟩ := by rw [img_slot, w1]
      simp only [Prm, effK_app, e1, TC.pv, St.blk, hs]
      refine ⟨trivial, by simp, trivial, srcT_ok (n := n) hI hsrc fun q1 q2 => ?_⟩
      obtain ⟨g1, te, g2, g3, g4⟩ := hgo q1 q2
      exact ⟨g1, q1, te, g2, g3, g4⟩
    split at h
    · rename_i rd hsrc
      split at h
      · rename_i v' k' hB
        split at h
        · rename_i hv hk
          obtain rfl := Nat.eq_of_beq_eq_true hv
          obtain rfl := Nat.eq_of_beq_eq_true hk
          obtain ⟨g1, h⟩ := gd_some h
          have hm : m = 0 := k1.2 _ (by rw [hB]; rfl)
          subst hm
          have hs : (img n τ).slot id = .live ⟨0, k', [], []⟩ := by rw [img_slot, hB]; rfl
          simp only [Prm, effK_app, e1, TC.pv, St.blk, hs]
          refine ⟨trivial, rfl, trivial, srcT_ok (n := n) hI hsrc fun q1 q2 => ⟨by simp [Srd.pv], q1, _, ?_, oldRef hI (tb := .nb τ.g k') (m := 0) (fun v q e => ?_) (fun _ _ _ e => by simp [hinf] at e) (fun _ => Nat.lt_succ_self _), h⟩⟩
          · simp [TE.img, TV.rv, TR.r1, TC.pv, TB.slot, Srd.pv, Srd.rd]
          · simp only [vlen, Option.some.injEq, Prod.mk.injEq] at e; omega
        · cases h
      · split at h
        · rename_i t ht
          split at h
          · rename_i v' l hw hk
            split at h
            · rename_i hv
              obtain ⟨g1, h⟩ := gd_some h
              refine key (Q := fun _ _ => True) hw (Nat.eq_of_beq_eq_true hv) (Nat.eq_of_beq_eq_true hk) hsrc fun q1 q2 => ⟨by simpa [Srd.pv] using g1, _, ?_, oldRef hI (tb := .sl t τ.g l) (m := l.length) (vlen_sl rfl) hinf_sl (fun _ => Nat.lt_succ_self _), h⟩
              simp [TE.img, TV.rv, TR.r1, TC.pv, TB.slot, Srd.pv, Srd.rd]
            · cases h
          · cases h
        · cases h
    · rename_i t m' rd hsrc
      split at h
      · rename_i v' l hw hk
        split at h
        · rename_i hv
          obtain ⟨g1, h⟩ := gd_some h
          refine key (Q := fun _ _ => True) hw (Nat.eq_of_beq_eq_true hv) (Nat.eq_of_beq_eq_true hk) hsrc fun q1 q2 => ⟨by simpa [Srd.pv] using g1, _, ?_, oldRef hI (tb := .sl t τ.g (l ++ m')) (m := l.length + m'.length) (vlen_sl (by simp)) hinf_sl (fun _ => Nat.lt_succ_self _), h⟩
          simp [TE.img, TV.rv, TR.r1, TC.pv, TB.slot, Srd.pv, Srd.rd]
        · cases h
      · cases h
    · rename_i t row rd hsrc
      split at h
      · rename_i v' l hw hk
        split at h
        · rename_i hv
          obtain ⟨g1, h⟩ := gd_some h
          refine key (Q := fun _ _ => True) hw (Nat.eq_of_beq_eq_true hv) (Nat.eq_of_beq_eq_true hk) hsrc fun q1 q2 => ⟨by simpa [Srd.pv] using g1, _, ?_, oldRef hI (tb := .hole t τ.g τ.g l.length l row [] none) (m := l.length + 1) (fun v q e => ?_) (fun v q q' e => ?_) (fun le => ?_), h⟩
          · simp [TE.img, TV.rv, TR.r1, TC.pv, TB.slot, Srd.pv, Srd.rd]
          · simp [vlen] at e; omega
          · simp [hinf] at e; omega
          · obtain ⟨r1, r2⟩ := q2 _ _ _ rfl
            exact ⟨Nat.lt_succ_self _, Nat.lt_succ_self _, fun c hc => le.cok (r1 c hc), r2, ⟨by omega, by simp⟩, by simp⟩
        · cases h
      · cases h
    · cases h
  · rename_i k' hx
    obtain ⟨e1, k1⟩ := ev1_ok (n := n) hI hx (by simp)
    split at h
    · rename_i rd hsrc
      simp only [Prm, effK_app, e1, TC.pv, SC.pv]
      refine ⟨img_fresh b hb, srcT_ok (n := n) hI hsrc fun q1 q2 => ⟨by simp [Srd.pv], q1, _, ?_, newRefT hI (tb := .nb τ.g k) (m := 0) (fun v q e => ?_) (fun _ _ _ e => by simp [hinf] at e) (fun _ => Nat.lt_succ_self _), h⟩⟩
      · simp [TE.img, TV.rv, TR.r1, TC.pv, TB.slot, Srd.pv, Srd.rd]
      · simp only [vlen, Option.some.injEq, Prod.mk.injEq] at e; omega
    · rename_i t m' rd hsrc
      split at h
      · rename_i hk
        obtain rfl := Nat.eq_of_beq_eq_true hk
        obtain ⟨g1, h⟩ := gd_some h
        simp only [Prm, effK_app, e1, TC.pv, SC.pv]
        refine ⟨img_fresh b hb, srcT_ok (n := n) hI hsrc fun q1 q2 => ⟨by simpa [Srd.pv] using g1, q1, _, ?_, newRefT hI (tb := .sl t τ.g m') (m := m'.length) (vlen_sl rfl) hinf_sl (fun _ => Nat.lt_succ_self _), h⟩⟩
        simp [TE.img, TV.rv, TR.r1, TC.pv, TB.slot, Srd.pv, Srd.rd]
      · cases h
    · rename_i t row rd hsrc
      split at h
      · rename_i hk
        obtain rfl := Nat.eq_of_beq_eq_true hk
        obtain ⟨g1, h⟩ := gd_some h
        simp only [Prm, effK_app, e1, TC.pv, SC.pv]
        refine ⟨img_fresh b hb, srcT_ok (n := n) hI hsrc fun q1 q2 => ⟨by simpa [Srd.pv] using g1, q1, _, ?_, newRefT hI (tb := .hole t τ.g τ.g 0 [] row [] none) (m := 1) (fun v q e => ?_) (fun v q q' e => ?_) (fun le => ?_), h⟩⟩
        · simp [TE.img, TV.rv, TR.r1, TC.pv, TB.slot, Srd.pv, Srd.rd]
        · simp [vlen] at e; omega
        · simp [hinf] at e; omega
        · obtain ⟨r1, r2⟩ := q2 _ _ _ rfl
          exact ⟨Nat.lt_succ_self _, Nat.lt_succ_self _, fun c hc => le.cok (r1 c hc), r2, ⟨by omega, by simp⟩, by simp⟩
      · cases h
    · cases h
  · cases h
theorem effK_copy {σ : St} {x y : Ix} {Q : Eff → Prop} : effK σ b (.copy x y) Q =
    match σ.ev1 x with
    | .ref id lo len full => σ.blk id full fun B => B.k = 1 ∧ srcP σ 1 (σ.ev1 y) fun ys rd => (∀ c ∈ ys, c.length = 1) ∧
        Q { v := .r (.one (.i .i64 ((min ys.length len : Nat) : Int))), wh := [(id, .live { B with kids := [], l := B.l.take lo ++ ys.take len ++ B.l.drop (lo + min ys.length len) })], rd := id :: rd }
    | _ => False := rfl
theorem p_copy (hI : Inv P τ) {et : Option Ty} {x y : Ix} (h : teff τ b et (.copy x y) K = some r) : Prm P n τ b (.copy x y) K r := by
  simp only [teff, copyT] at h
  have key : ∀ {id v lo len m : Nat} {t : Ty} {v' : Nat} {l : List (Den t)} {u : Ty} {m0 : List (Den u)} {rd : List Nat} {m' : List (Den t)}, (img n τ).ev1 x = .ref id lo len m → tbAt τ.h id = .sl t v' l → m = l.length → lo + len ≤ l.length → t.sz = 1 → srcT τ 1 (τ.ev1 y) = some (.els u m0 rd) → asL u t m0 = some m' →
      K { v := .r (.one (.c (.i .i64 (min m'.length len : Nat)))), wh := [(id, .sl t v' (l.take lo ++ m'.take len ++ l.drop (lo + min m'.length len)))], rd := id :: rd, g := τ.g } = some r → Prm P n τ b (.copy x y) K r := by
    intro id v lo len m t v' l u m0 rd m' e1 hB hm hle hsz hsrc has h
    subst hm
    have hs : (img n τ).slot id = .live ⟨0, t.sz, [], l.map (enc t)⟩ := by rw [img_slot, hB]; rfl
    obtain ⟨_, has2⟩ := asL_ok has
    have hlen : m0.length = m'.length := by simpa using congrArg List.length has2
    have hnl : (l.take lo ++ m'.take len ++ l.drop (lo + min m'.length len)).length = l.length := by
      simp only [List.length_append, List.length_take, List.length_drop]; omega
    have hblk := hI.blks id
    rw [hB] at hblk
    simp only [Prm, effK_copy, e1, St.blk, hs]
    refine ⟨by simp, hsz, srcT_ok (n := n) hI hsrc fun q1 q2 => ⟨q1, _, ?_, OkE.wr (v := .r (.one (.c (.i .i64 (min m'.length len : Nat))))) (wh := [(id, .sl t v' (l.take lo ++ m'.take len ++ l.drop (lo + min m'.length len)))]) (rd := id :: rd) hI (Nat.le_refl _) (fun e he => ?_) (fun le e he => ?_) (fun _ c hc => ?_), h⟩⟩
    · simp only [TE.img, TV.rv, TR.r1, TC.pv, SC.pv, Srd.pv, Srd.rd, List.map_cons, List.map_nil, TB.slot, has2, List.map_append, List.map_take, List.map_drop, List.length_map]
    · obtain rfl : e = (id, .sl t v' (l.take lo ++ m'.take len ++ l.drop (lo + min m'.length len))) := by simpa using he
      refine ⟨fun v m hv e => ?_, fun v m q hv e => by simp [hinf] at e⟩
      rw [hB]
      simp only [vlen, Option.some.injEq, Prod.mk.injEq] at e ⊢
      omega
    · obtain rfl : e = (id, .sl t v' (l.take lo ++ m'.take len ++ l.drop (lo + min m'.length len))) := by simpa using he
      exact hblk
    · have : c = .c (.i .i64 (min m'.length len : Nat)) := by simpa [TV.cs, TR.cs] using hc
      subst this; trivial
  split at h
  · rename_i id v m hx
    obtain ⟨e1, k1⟩ := ev1_ok (n := n) hI hx (by simp)
    split at h
    · rename_i t v' l hB
      split at h
      · rename_i u m0 rd hv hk hsrc
        obtain rfl := Nat.eq_of_beq_eq_true hv
        split at h
        · rename_i m' has
          have hm : m = l.length := k1.2 _ (by rw [hB]; rfl)
          exact key (v := v) e1 hB hm (by omega) (Nat.eq_of_beq_eq_true hk) hsrc has h
        · cases h
      · cases h
    · cases h
  · rename_i id v lo len m hx
    obtain ⟨e1, k1⟩ := ev1_ok (n := n) hI hx (by simp)
    split at h
    · rename_i t v' l hB
      split at h
      · rename_i u m0 rd hv hk hsrc
        obtain rfl := Nat.eq_of_beq_eq_true hv
        split at h
        · rename_i m' has
          have hm : m = l.length := k1.1.2 _ (by rw [hB]; rfl)
          have hle := k1.2
          exact key (v := v) e1 hB hm (by omega) (Nat.eq_of_beq_eq_true hk) hsrc has h
        · cases h
      · cases h
    · cases h
  · cases h
theorem teff_ok (hI : Inv P τ) (hb : τ.h.length ≤ b) {et : Option Ty} {k : AK} (h : teff τ b et k K = some r) : opK P (img n τ) b k fun E => ∃ te, E = te.img ∧ OkE P τ te ∧ K te = some r := by
  cases k with
  | mv x => exact p_mv (P := P) hI h
  | nils k => cases h
  | pick c x y => exact p_pick (P := P) hI h
  | box x => exact p_box (P := P) hI hb h
  | alloc zs => exact p_alloc (P := P) hI hb h
  | build zs ps => exact p_build (P := P) hI h
  | bsl k m zs ps => exact p_bsl hI hb h
  | mks k bytes zs x => exact p_mks (P := P) hI hb h
  | ld1 x => exact p_ld1 (P := P) hI hb h
  | ld m x => exact p_ld (P := P) hI hb h
  | st m x y => exact p_st (P := P) hI h
  | nchk x => exact p_nchk (P := P) hI h
  | bin bo op x y => exact p_bin (P := P) hI h
  | eqs ng ks x y => exact p_eqs (P := P) hI h
  | not x => exact p_not (P := P) hI h
  | neg x => exact p_neg (P := P) hI h
  | conv k x => exact p_conv (P := P) hI h
  | slc k x lo hi => exact p_slc (P := P) hI h
  | fa off x => exact p_fa (P := P) hI h
  | ia k x y => exact p_ia (P := P) hI h
  | len x => exact p_len (P := P) hI h
  | app k bytes x y => exact p_app (P := P) hI hb h
  | copy x y => exact p_copy (P := P) hI h
  | mn x y => exact p_mn (P := P) hI h
  | mx x y => exact p_mx (P := P) hI h
  | ext i x => exact p_ext (P := P) hI h
  | mkf f l => exact p_mkf (P := P) hI h
  | call f l => cases h
  | clo x l => cases h
end
def Ty.simB : Ty → Ty → Bool
  | .int k, .int l => kindB k l
  | .bool, .bool => true
  | .str, .str => true
  | .sl t, .sl u => t.simB u
  | .sl t, .vw u => t.simB u
  | .vw t, .sl u => t.simB u
  | .vw t, .vw u => t.simB u
  | .pr a b, .pr c d => a.simB c && b.simB d
  | _, _ => false
theorem simDen : ∀ {a b : Ty}, a.simB b = true → Den a = Den b
  | .int k, b, h => by cases b <;> first | rfl | cases h
  | .bool, b, h => by cases b <;> first | rfl | cases h
  | .str, b, h => by cases b <;> first | rfl | cases h
  | .sl t, b, h => by cases b <;> first | exact congrArg List (simDen (a := t) h) | cases h
  | .vw t, b, h => by cases b <;> first | exact congrArg List (simDen (a := t) h) | cases h
  | .pr a c, b, h => by
    cases b <;> first | cases h; done | skip
    simp only [Ty.simB, Bool.and_eq_true] at h
    have h1 := simDen h.1
    have h2 := simDen h.2
    show (Den a × Den c) = (Den _ × Den _)
    rw [h1, h2]
theorem simSz : ∀ {a b : Ty}, a.simB b = true → a.sz = b.sz
  | .int k, b, h => by cases b <;> first | rfl | cases h
  | .bool, b, h => by cases b <;> first | rfl | cases h
  | .str, b, h => by cases b <;> first | rfl | cases h
  | .sl t, b, h => by cases b <;> first | rfl | cases h
  | .vw t, b, h => by cases b <;> first | rfl | cases h
  | .pr a c, b, h => by
    cases b <;> first | cases h; done | skip
    simp only [Ty.simB, Bool.and_eq_true] at h
    simp only [Ty.sz, simSz h.1, simSz h.2]
theorem cast_list {A B : Type} (h : A = B) (h' : List A = List B) (l : List A) (e : Nat) : (cast h' l)[e]? = (l[e]?).map (cast h) := by subst h; simp only [cast_eq]; cases l[e]? <;> rfl
theorem cast_len {A B : Type} (h : A = B) (h' : List A = List B) (l : List A) : (cast h' l).length = l.length := by subst h; rfl
theorem cast_pr {A B C D : Type} (h : A = C) (k : B = D) (h' : (A × B) = (C × D)) (x : A × B) : cast h' x = (cast h x.1, cast k x.2) := by subst h; subst k; rfl
theorem sz_pos0 : ∀ (t : Ty), 0 < t.sz
  | .int _ => Nat.one_pos
  | .bool => Nat.one_pos
  | .str => Nat.one_pos
  | .sl _ => Nat.one_pos
  | .vw _ => Nat.one_pos
  | .pr a b => Nat.add_pos_left (sz_pos0 a) _
theorem rc_list {w : World} {M : Nat → Prop} {X : Ctx} {t u : Ty} (hs : t.sz = u.sz) (hD : Den t = Den u) (hD' : List (Den t) = List (Den u))
    (ih : ∀ (x : Den t) (j : Nat) (p q : PV) (v : Value), (enc t x)[j]? = some p → (enc u (cast hD x))[j]? = some q → RC w M X p.sh v [] → RC w M X q.sh v [])
    (l : List (Den t)) (v : Value) (h : RC w M X (.vs false t.sz (l.map (enc t))) v []) : RC w M X (.vs false u.sz ((cast hD' l).map (enc u))) v [] := by
  have hcl := cast_len hD hD' l
  cases h with
  | @ro _ _ A c xs hn hk hl hx hc =>
    have e0 : (l.map (enc t)).length = ((cast hD' l).map (enc u)).length := by simp [hcl]
    rw [e0]
    have hk2 : ∀ c ∈ (cast hD' l).map (enc u), c.length = u.sz := by
      intro c hc; obtain ⟨z, _, rfl⟩ := List.mem_map.1 hc; exact enc_len u z
    refine .ro (by rw [← e0]; exact hn) hk2 ?_ hx fun j q v hq hv => ?_
    · rw [← hl, flatten_len _ hk2, flatten_len _ hk, ← e0, hs]
    · have hpos := sz_pos0 u
      have hi : j / u.sz * u.sz + j % u.sz = j := by have := Nat.div_add_mod j u.sz; rw [Nat.mul_comm] at this; exact this
      have hm : j % u.sz < u.sz := Nat.mod_lt _ hpos
      rw [← hi, flatten_get _ hk2 _ _ hm, List.getElem?_map, cast_list hD hD'] at hq
      cases hle : l[j / u.sz]? with
      | none => rw [hle] at hq; simp at hq
      | some x =>
        rw [hle] at hq
        simp only [Option.map_some, Option.bind_some] at hq
        have hlt : j % u.sz < (enc t x).length := by rw [enc_len, hs]; exact hm
        have hp : (l.map (enc t)).flatten[j]? = some ((enc t x)[j % u.sz]) := by
          have := flatten_get (l.map (enc t)) hk (j / t.sz) (j % t.sz) (by rw [hs]; exact hm)
          rw [hs, hi] at this
          rw [this, List.getElem?_map, hle]
          simp
        exact ih x _ _ q v (List.getElem?_eq_getElem hlt) hq (hc j _ v hp hv)
theorem rc_sim {w : World} {M : Nat → Prop} {X : Ctx} : ∀ (t u : Ty) (h : t.simB u = true) (hD : Den t = Den u) (x : Den t) (j : Nat) (p q : PV) (v : Value), (enc t x)[j]? = some p → (enc u (cast hD x))[j]? = some q → RC w M X p.sh v [] → RC w M X q.sh v []
  | .int k, u, h, hD, x, j, p, q, v, hp, hq, hr => by
    cases u <;> first | cases h; done | skip
    obtain rfl := kindB_ok h
    have e : cast hD x = x := rfl
    rw [e, hp] at hq; injection hq with hq; subst hq; exact hr
  | .bool, u, h, hD, x, j, p, q, v, hp, hq, hr => by
    cases u <;> first | cases h; done | skip
    have e : cast hD x = x := rfl
    rw [e, hp] at hq; injection hq with hq; subst hq; exact hr
  | .str, u, h, hD, x, j, p, q, v, hp, hq, hr => by
    cases u <;> first | cases h; done | skip
    have e : cast hD x = x := rfl
    rw [e, hp] at hq; injection hq with hq; subst hq; exact hr
  | .sl t, u, h, hD, x, j, p, q, v, hp, hq, hr => by
    have key : ∀ u', t.simB u' = true → ∀ (hD : List (Den t) = List (Den u')) (o : Bool), [PV.vs o t.sz (List.map (enc t) x)][j]? = some p → (∃ o', [PV.vs o' u'.sz (List.map (enc u') (cast hD x))][j]? = some q) → RC w M X q.sh v [] := by
      intro u' h hD o hp hq
      obtain ⟨o', hq⟩ := hq
      cases j with
      | succ j => simp at hp
      | zero =>
        simp only [List.getElem?_cons_zero, Option.some.injEq] at hp hq
        subst hp hq
        exact rc_list (t := t) (u := u') (simSz h) (simDen h) hD (fun x j p q v => rc_sim t u' h (simDen h) x j p q v) x v hr
    cases u with
    | sl u' => exact key u' h hD _ hp ⟨_, hq⟩
    | vw u' => exact key u' h hD _ hp ⟨_, hq⟩
    | _ => cases h
  | .vw t, u, h, hD, x, j, p, q, v, hp, hq, hr => by
    have key : ∀ u', t.simB u' = true → ∀ (hD : List (Den t) = List (Den u')) (o : Bool), [PV.vs o t.sz (List.map (enc t) x)][j]? = some p → (∃ o', [PV.vs o' u'.sz (List.map (enc u') (cast hD x))][j]? = some q) → RC w M X q.sh v [] := by
      intro u' h hD o hp hq
      obtain ⟨o', hq⟩ := hq
      cases j with
      | succ j => simp at hp
      | zero =>
        simp only [List.getElem?_cons_zero, Option.some.injEq] at hp hq
        subst hp hq
        exact rc_list (t := t) (u := u') (simSz h) (simDen h) hD (fun x j p q v => rc_sim t u' h (simDen h) x j p q v) x v hr
    cases u with
    | sl u' => exact key u' h hD _ hp ⟨_, hq⟩
    | vw u' => exact key u' h hD _ hp ⟨_, hq⟩
    | _ => cases h
  | .pr a b, u, h, hD, x, j, p, q, v, hp, hq, hr => by
    cases u <;> first | cases h; done | skip
    rename_i c d
    simp only [Ty.simB, Bool.and_eq_true] at h
    rw [cast_pr (simDen h.1) (simDen h.2) hD x] at hq
    simp only [enc] at hp hq
    have e1 := enc_len a x.1
    have e2 := enc_len c (cast (simDen h.1) x.1)
    have e3 := simSz h.1
    by_cases hj : j < a.sz
    · rw [List.getElem?_append_left (by omega)] at hp hq
      exact rc_sim a c h.1 _ x.1 j p q v hp hq hr
    · rw [List.getElem?_append_right (by omega)] at hp hq
      rw [e1] at hp; rw [e2, ← e3] at hq
      exact rc_sim b d h.2 _ x.2 _ p q v hp hq hr
def asS (t u : Ty) (l : List (Den t)) : Option (List (Den u)) :=
  match h : t.simB u with
  | true => some (cast (congrArg List (simDen h)) l)
  | false => none
def ofV1 (t : Ty) : SC → Option (List (Den t))
  | .sl false u l => asS u t l
  | .nl false k => match Nat.beq k t.sz with
    | true => some []
    | false => none
  | _ => none
def ofV : (t : Ty) → List SC → Option (Den t)
  | .int k, l => match l with
    | [.i k' n] => match kindB k k' with
      | true => some n
      | false => none
    | _ => none
  | .bool, l => match l with
    | [.b x] => some x
    | _ => none
  | .str, l => match l with
    | [.s x] => some x
    | _ => none
  | .sl t, l => match l with
    | [x] => ofV1 t x
    | _ => none
  | .vw t, l => match l with
    | [x] => ofV1 t x
    | _ => none
  | .pr a b, l => match ofV a (spl a.sz l).1 with
    | some x => match ofV b (spl a.sz l).2 with
      | some y => some (x, y)
      | none => none
    | none => none
def ImpP (p q : PV) : Prop := ∀ (w : World) (M : Nat → Prop) (X : Ctx) (v : Value), RC w M X p v [] → RC w M X q v []
def ImpL : List PV → List PV → Prop
  | [], [] => True
  | p :: ps, q :: qs => ImpP p q ∧ ImpL ps qs
  | _, _ => False
theorem ImpL.append : ∀ {ps qs ps' qs' : List PV}, ImpL ps qs → ImpL ps' qs' → ImpL (ps ++ ps') (qs ++ qs')
  | [], [], _, _, _, k => k
  | p :: ps, q :: qs, _, _, h, k => ⟨h.1, ImpL.append h.2 k⟩
  | [], _ :: _, _, _, h, _ => h.elim
  | _ :: _, [], _, _, h, _ => h.elim
theorem ImpL.len : ∀ {ps qs : List PV}, ImpL ps qs → ps.length = qs.length
  | [], [], _ => rfl
  | p :: ps, q :: qs, h => by simp [ImpL.len h.2]
  | [], _ :: _, h => h.elim
  | _ :: _, [], h => h.elim
theorem ImpL.get : ∀ {ps qs : List PV} {j : Nat} {q : PV}, ImpL ps qs → qs[j]? = some q → ∃ p, ps[j]? = some p ∧ ImpP p q
  | [], [], j, q, _, h => by simp at h
  | p :: ps, q :: qs, 0, r, h, k => by simp at k; subst k; exact ⟨p, rfl, h.1⟩
  | p :: ps, q :: qs, j + 1, r, h, k => by simpa using ImpL.get h.2 (by simpa using k)
  | [], _ :: _, _, _, h, _ => h.elim
  | _ :: _, [], _, _, h, _ => h.elim
theorem ofV1_imp {t : Ty} {x : SC} {v : List (Den t)} (h : ofV1 t x = some v) : ImpP x.pv (.vs false t.sz (v.map (enc t))) := by
  unfold ofV1 at h
  split at h
  · rename_i u l
    unfold asS at h
    split at h
    · rename_i hs
      injection h with h; subst h
      intro w M X v hr
      exact rc_list (simSz hs) (simDen hs) _ (fun x j p q v => rc_sim u t hs (simDen hs) x j p q v) l v hr
    · cases h
  · split at h
    · rename_i hk
      have := Nat.eq_of_beq_eq_true hk
      subst this
      injection h with h; subst h
      exact fun _ _ _ _ hr => hr
    · cases h
  · cases h
theorem ofV_imp : ∀ {t : Ty} {l : List SC} {v : Den t}, ofV t l = some v → ImpL (l.map SC.pv) ((enc t v).map PV.sh)
  | .int k, l, v, h => by
    unfold ofV at h
    split at h
    · split at h
      · rename_i hk; injection h with h; subst h; rw [← kindB_ok hk]; exact ⟨fun _ _ _ _ hr => hr, trivial⟩
      · cases h
    · cases h
  | .bool, l, v, h => by
    unfold ofV at h
    split at h
    · injection h with h; subst h; exact ⟨fun _ _ _ _ hr => hr, trivial⟩
    · cases h
  | .str, l, v, h => by
    unfold ofV at h
    split at h
    · injection h with h; subst h; exact ⟨fun _ _ _ _ hr => hr, trivial⟩
    · cases h
  | .sl t, l, v, h => by
    unfold ofV at h
    split at h
    · exact ⟨ofV1_imp h, trivial⟩
    · cases h
  | .vw t, l, v, h => by
    unfold ofV at h
    split at h
    · exact ⟨ofV1_imp h, trivial⟩
    · cases h
  | .pr a b, l, v, h => by
    unfold ofV at h
    split at h
    · rename_i x h1
      split at h
      · rename_i y h2
        injection h with h; subst h
        rw [spl_eq] at h1 h2
        have e1 := ofV_imp h1
        have e2 := ofV_imp h2
        have := e1.append e2
        rw [← List.map_append, ← List.map_append, List.take_append_drop] at this
        exact this
      · cases h
    · cases h
theorem ImpL.toR {t : Ty} {ps qs : List PV} (h : ImpL ps qs) (hl : qs.length = t.sz) : ImpR (mkR1 t ps) (mkR1 t qs) := by
  intro w M X u hr
  have hagg : ∀ xs : List Value, RCs w M X ps xs [] → RCs w M X qs xs [] := by
    intro xs hx
    refine RCs.of_nofp (by rw [← h.len]; exact hx.1) fun j q v hq hv => ?_
    obtain ⟨p, hp, hi⟩ := h.get hq
    exact hi w M X v (hx.get_nofp j p v hp hv)
  have hone : ∀ p q, ps = [p] → qs = [q] → R1R w M X (.one p) u [] → R1R w M X (.one q) u [] := by
    rintro p q rfl rfl hr
    exact h.1 w M X u hr
  cases t with
  | pr a b =>
    obtain ⟨xs, rfl, hx⟩ := hr
    exact ⟨xs, rfl, hagg xs hx⟩
  | _ =>
    all_goals
      match qs, hl with
      | [q], _ =>
        match ps, h.len with
        | [p], _ => exact hone p q rfl rfl hr
inductive PM where
  | v (t : Ty)
  | o (t : Ty)
  | w (t : Ty)
  | rp (t : Ty)
  | f (a r : Ty)
structure Clo (P : Program) (a r : Ty) where
  f : FuncId
  m : List PV
  p : Den a → Option (Den r)
def CloOk {P : Program} {a r : Ty} (q : Clo P a r) : Prop :=
  (∀ z ∈ q.m, NoRef z ∧ z.frz = true) ∧ ∀ x y, q.p x = some y → Con P q.f (.v (mkR1 a ((enc a x).map PV.sh)) :: q.m.map fun q => .v (.one q)) [mkR1 r (enc r y)]
@[reducible] def DenM (P : Program) : PM → Type
  | .v t => Den t
  | .o t => Den t
  | .w t => Den t
  | .rp t => Den t
  | .f a r => Clo P a r
@[reducible] def DenMs (P : Program) : List PM → Type
  | [] => Unit
  | [m] => DenM P m
  | m :: m' :: ms => DenM P m × DenMs P (m' :: ms)
@[reducible] def DenOs : List Ty → Type
  | [] => Unit
  | [t] => Den t
  | t :: u :: ts => Den t × DenOs (u :: ts)
abbrev SD := Σ t : Ty, Den t
abbrev SM (P : Program) := Σ m : PM, DenM P m
def outL : (ts : List Ty) → DenOs ts → List SD
  | [], _ => []
  | [t], v => [⟨t, v⟩]
  | t :: u :: ts, v => ⟨t, v.1⟩ :: outL (u :: ts) v.2
def inL (P : Program) : (ms : List PM) → DenMs P ms → List (SM P)
  | [], _ => []
  | [m], v => [⟨m, v⟩]
  | m :: m' :: ms, v => ⟨m, v.1⟩ :: inL P (m' :: ms) v.2
def consM (P : Program) (m : PM) (x : DenM P m) : (ms : List PM) → DenMs P ms → DenMs P (m :: ms)
  | [], _ => x
  | _ :: _, xs => (x, xs)
theorem inL_consM (P : Program) (m : PM) (x : DenM P m) (ms : List PM) (xs : DenMs P ms) : inL P (m :: ms) (consM P m x ms xs) = ⟨m, x⟩ :: inL P ms xs := by
  cases ms <;> rfl
def SMOk {P : Program} : List (SM P) → Prop
  | [] => True
  | ⟨.f _ _, q⟩ :: l => CloOk q ∧ SMOk l
  | _ :: l => SMOk l
def winT : List PM → List Ty
  | [] => []
  | .w t :: r => t :: winT r
  | _ :: r => winT r
def resR (w : SD) : R1 := mkR1 w.1 (enc w.1 w.2)
def argsL {P : Program} : List (SM P) → List SD → List Arg
  | [], _ => []
  | ⟨.v t, x⟩ :: r, wl => .v (mkR1 t ((enc t x).map PV.sh)) :: argsL r wl
  | ⟨.o t, x⟩ :: r, wl => .o (mkR1 t (enc t x)) :: argsL r wl
  | ⟨.w t, x⟩ :: r, wl => .w (enc t x) (match wl with | w :: _ => enc w.1 w.2 | [] => []) :: argsL r wl.tail
  | ⟨.rp t, x⟩ :: r, wl => .v (.one (.rp (enc t x) 0)) :: argsL r wl
  | ⟨.f a r', q⟩ :: r, wl => .v (.one (.fn q.f q.m)) :: argsL r wl
structure Sig where
  ms : List PM
  rs : List Ty
  box : Bool
@[reducible] def Sig.outs (s : Sig) : List Ty := s.rs ++ winT s.ms
def ConE (P : Program) (id : FuncId) (s : Sig) (x : DenMs P s.ms) (l : List SD) : Prop :=
  match s.box with
  | false => Con P id (argsL (inL P s.ms x) (l.drop s.rs.length)) ((l.take s.rs.length).map resR)
  | true => ConB P id (argsL (inL P s.ms x) []) (l.flatMap fun w => enc w.1 w.2)
structure Ent (P : Program) (s : Sig) where
  id : FuncId
  f : DenMs P s.ms → Option (DenOs s.outs)
  ok : ∀ x y, SMOk (inL P s.ms x) → f x = some y → ConE P id s x (outL s.outs y)
structure AEnt (P : Program) where
  s : Sig
  e : Ent P s
  d : Option Nat := none
def okD : Option Nat → Option Nat → Bool
  | none, _ => true
  | some a, some b => Nat.beq a b
  | some _, none => false
def findE {P : Program} : List (AEnt P) → FuncId → Option Nat → Option (AEnt P)
  | [], _, _ => none
  | E :: r, f, d => match Nat.beq E.e.id f with
    | true => match okD E.d d with
      | true => some E
      | false => findE r f d
    | false => findE r f d
theorem findE_ok {P : Program} : ∀ {l : List (AEnt P)} {f : FuncId} {d : Option Nat} {E : AEnt P}, findE l f d = some E → E.e.id = f
  | [], f, d, E, h => by cases h
  | E0 :: r, f, d, E, h => by
    unfold findE at h
    split at h
    · rename_i hb
      split at h
      · injection h with h; subst h; exact Nat.eq_of_beq_eq_true hb
      · exact findE_ok h
    · exact findE_ok h
def asD (t u : Ty) (x : Den t) : Option (Den u) :=
  match Ty.eq t u with
  | some ⟨h⟩ => some (h ▸ x)
  | none => none
theorem asD_ok {t u : Ty} {x : Den t} {y : Den u} (h : asD t u x = some y) : t = u ∧ enc t x = enc u y := by
  unfold asD at h
  split at h
  · rename_i e _
    subst e
    injection h with h; subst h; exact ⟨rfl, rfl⟩
  · cases h
def asOut (r : Ty) : List SD → Option (Den r)
  | [w] => asD w.1 r w.2
  | _ => none
def capP {P : Program} : SM P → Option PV
  | ⟨.v t, x⟩ => match t.agg with
    | false => some (((enc t x).map PV.sh).headD .un)
    | true => none
  | ⟨.rp t, x⟩ => some (.rp (enc t x) 0)
  | _ => none
def capPs {P : Program} : List (SM P) → Option (List PV)
  | [] => some []
  | x :: r => match capP x, capPs r with
    | some p, some l => some (p :: l)
    | _, _ => none
theorem enc_sh_nr (t : Ty) (x : Den t) : ∀ p ∈ (enc t x).map PV.sh, NoRef p := by
  intro p hp
  obtain ⟨q, hq, rfl⟩ := List.mem_map.1 hp
  exact (enc_nr t x q hq).sh
theorem enc_frz : ∀ (t : Ty) (x : Den t), ∀ p ∈ (enc t x).map PV.sh, p.frz = true
  | .int _, _, p, h => by simp only [enc, List.map_cons, List.map_nil, List.mem_singleton] at h; subst h; rfl
  | .bool, _, p, h => by simp only [enc, List.map_cons, List.map_nil, List.mem_singleton] at h; subst h; rfl
  | .str, _, p, h => by simp only [enc, List.map_cons, List.map_nil, List.mem_singleton] at h; subst h; rfl
  | .sl t, l, p, h => by simp only [enc, List.map_cons, List.map_nil, List.mem_singleton] at h; subst h; rfl
  | .vw t, l, p, h => by simp only [enc, List.map_cons, List.map_nil, List.mem_singleton] at h; subst h; rfl
  | .pr a b, v, p, h => by
    simp only [enc, List.map_append, List.mem_append] at h
    exact h.elim (enc_frz a v.1 p) (enc_frz b v.2 p)
theorem mkR1_one {t : Ty} (h : t.agg = false) (l : List PV) : mkR1 t l = .one (l.headD .un) := by
  cases t <;> first | rfl | cases h
theorem capPs_ok {P : Program} : ∀ {l : List (SM P)} {m : List PV}, capPs l = some m → (∀ q ∈ m, NoRef q ∧ q.frz = true) ∧ ∀ wl, argsL l wl = m.map fun q => .v (.one q)
  | [], m, h => by injection h with h; subst h; exact ⟨by simp, fun _ => rfl⟩
  | x :: r, m, h => by
    unfold capPs at h
    split at h
    · rename_i p l hp hl
      injection h with h; subst h
      obtain ⟨k1, k2⟩ := capPs_ok hl
      obtain ⟨pm, x⟩ := x
      unfold capP at hp
      split at hp
      · rename_i t x e
        split at hp
        · rename_i ha
          injection hp with hp; subst hp
          injection e with e1 e2; subst e1; cases e2
          have hlen := enc_len t x
          obtain ⟨q, hq⟩ : ∃ q, (enc t x).map PV.sh = [q] := by
            have h1 : t.sz = 1 := by cases t <;> first | rfl | cases ha
            have : ((enc t x).map PV.sh).length = 1 := by simp [hlen, h1]
            exact List.length_eq_one_iff.1 this
          refine ⟨fun p hp => ?_, fun wl => ?_⟩
          · rcases List.mem_cons.1 hp with rfl | hp
            · rw [hq]
              exact ⟨enc_sh_nr t x q (by rw [hq]; simp), enc_frz t x q (by rw [hq]; simp)⟩
            · exact k1 p hp
          · simp only [argsL, List.map_cons, k2 wl, mkR1_one ha]
        · cases hp
      · rename_i t x e
        injection hp with hp; subst hp
        injection e with e1 e2; subst e1; cases e2
        refine ⟨fun p hp => ?_, fun wl => ?_⟩
        · rcases List.mem_cons.1 hp with rfl | hp
          · exact ⟨.rp (enc_nr t x), rfl⟩
          · exact k1 p hp
        · simp only [argsL, List.map_cons, k2 wl]
      · cases hp
    · cases h
def cloOf {P : Program} {a r : Ty} {cm : List PM} (E : Ent P ⟨.v a :: cm, [r], false⟩) (cv : DenMs P cm) : Clo P a r where
  f := E.id
  m := match capPs (inL P cm cv) with
    | some m => m
    | none => []
  p := fun x => match capPs (inL P cm cv) with
    | some _ => bd (E.f (consM P (.v a) x cm cv)) fun y => asOut r (outL _ y)
    | none => none
theorem cloOf_ok {P : Program} {a r : Ty} {cm : List PM} (E : Ent P ⟨.v a :: cm, [r], false⟩) (cv : DenMs P cm) (hs : SMOk (inL P cm cv)) : CloOk (cloOf E cv) where
  left := by
    intro q hq
    simp only [cloOf] at hq
    split at hq
    · rename_i m hm; exact (capPs_ok hm).1 q hq
    · cases hq
  right := by
    intro x y h
    have h : (match capPs (inL P cm cv) with
      | some _ => bd (E.f (consM P (.v a) x cm cv)) fun y => asOut r (outL _ y)
      | none => none) = some y := h
    split at h
    · rename_i m hm
      have e1 : (cloOf E cv).m = m := by simp only [cloOf, hm]
      rw [e1]
      show Con P E.id _ _
      obtain ⟨z, hz, h⟩ := bd_some h
      have := E.ok _ _ (by rw [inL_consM]; exact hs) hz
      unfold asOut at h
      split at h
      · rename_i w e
        obtain ⟨e1, e2⟩ := asD_ok h
        simp only [ConE, inL_consM, e, argsL] at this
        rw [(capPs_ok hm).2] at this
        have e3 : resR w = mkR1 r (enc r y) := by unfold resR; rw [e2]; cases e1; rfl
        simpa [e3] using this
      · cases h
    · cases h
def viewC (τ : TSt) : TC → Option (SC × List Nat)
  | .c (.sl o t l) => match o with
    | false => some (.sl false t l, [])
    | true => none
  | .c (.nl _ k) => some (.nl false k, [])
  | .c x => some (x, [])
  | .ref id v n => match tbAt τ.h id with
    | .nb v' k => match Nat.beq v v' with
      | true => some (.nl false k, [id])
      | false => none
    | tb => match elTy tb with
      | some t => match whole t tb with
        | some (v', l) => match Nat.beq v v' with
          | true => some (.sl false t l, [id])
          | false => none
        | none => none
      | none => none
  | .part id v lo len n => match tbAt τ.h id with
    | .sl t v' l => match Nat.beq v v' with
      | true => some (.sl false t ((l.drop lo).take len), [id])
      | false => none
    | _ => none
  | _ => none
def viewL (τ : TSt) : List TC → Option (List SC × List Nat)
  | [] => some ([], [])
  | c :: r => match viewC τ c with
    | some (x, i) => match viewL τ r with
      | some (xs, is) => some (x :: xs, i ++ is)
      | none => none
    | none => none
def ownC (τ : TSt) : TC → Option (SC × List Nat)
  | .c x => some (x, [])
  | .ref id v n => match tbAt τ.h id with
    | .nb v' k => match Nat.beq v v' with
      | true => some (.nl true k, [id])
      | false => none
    | tb => match elTy tb with
      | some t => match whole t tb with
        | some (v', l) => match Nat.beq v v' with
          | true => some (.sl true t l, [id])
          | false => none
        | none => none
      | none => none
  | _ => none
def ownL (τ : TSt) : List TC → Option (List SC × List Nat)
  | [] => some ([], [])
  | c :: r => match ownC τ c with
    | some (x, i) => match ownL τ r with
      | some (xs, is) => some (x :: xs, i ++ is)
      | none => none
    | none => none
def Ty.vwf : Ty → List Bool
  | .vw _ => [true]
  | .pr a b => a.vwf ++ b.vwf
  | _ => [false]
def mixC (τ : TSt) (f : Bool) (c : TC) : Option (SC × List Nat × List Nat) := match f with
  | false => match ownC τ c with
    | some (x, i) => some (x, i, [])
    | none => none
  | true => match c with
    | .c (.nl true _) => none
    | c => match viewC τ c with
      | some (x, l) => some (x, [], l)
      | none => none
def mixL (τ : TSt) : List Bool → List TC → Option (List SC × List Nat × List Nat)
  | [], [] => some ([], [], [])
  | f :: fs, c :: cs => match mixC τ f c with
    | some (x, i, l) => match mixL τ fs cs with
      | some (xs, is, ls) => some (x :: xs, i ++ is, l ++ ls)
      | none => none
    | none => none
  | _, _ => none
def cellsR (t : Ty) : TV → Option (List TC)
  | .r (.agg l) => match t.agg with
    | true => some l
    | false => none
  | .r (.one c) => match t.agg with
    | true => none
    | false => some [c]
  | _ => none
def rowAt (τ : TSt) : TC → Option (List TC × Nat × Nat)
  | .vp id j => match tbAt τ.h id with
    | .var _ cs => some (cs, id, j)
    | _ => none
  | .hp id v _ _ j => match tbAt τ.h id with
    | .hole _ _ hv _ _ row _ _ => match Nat.beq v hv with
      | true => some (row, id, j)
      | false => none
    | _ => none
  | _ => none
def setRow (j : Nat) (ys : List TC) : TB → TB
  | .var w cs => .var w (splice cs j ys)
  | .hole t v hv y pre row post _ => .hole t v hv y pre (splice row j ys) post none
  | tb => tb
structure AI where
  ln : List Nat
  tk : List Nat
  wi : List (Nat × Nat)
def capVs {P : Program} : (cm : List PM) → List (List SC × Option Nat) → Option (DenMs P cm)
  | [], [] => some ()
  | m :: ms, c :: r => match (match m, c with
      | .v t, ([x], none) => ofC false t [x]
      | .rp t, (l, some 0) => ofC true t l
      | _, _ => none : Option (DenM P m)) with
    | some x => match capVs ms r with
      | some xs => some (consM P m x ms xs)
      | none => none
    | none => none
  | _, _ => none
def bind1 {P : Program} (τ : TSt) (tab : List (AEnt P)) : (m : PM) → TV → Option (DenM P m × AI)
  | .v t, v => match cellsR t v with
    | some cs => match viewL τ cs with
      | some (xs, ln) => match ofV t xs with
        | some x => some (x, ⟨ln, [], []⟩)
        | none => none
      | none => none
    | none => none
  | .o t, v => match cellsR t v with
    | some cs => match mixL τ t.vwf cs with
      | some (xs, tk, ln) => match ofC true t xs with
        | some x => some (x, ⟨ln, tk, []⟩)
        | none => none
      | none => none
    | none => none
  | .w t, v => match v with
    | .r (.one c) => match rowAt τ c with
      | some (cs, id, j) => match Nat.ble (j + t.sz) cs.length, Nat.ble 1 t.sz, toSC ((cs.drop j).take t.sz) with
        | true, true, some xs => match ofC true t xs with
          | some x => some (x, ⟨[], [], [(id, j)]⟩)
          | none => none
        | _, _, _ => none
      | none => none
    | _ => none
  | .rp t, v => match v with
    | .r (.one (.rp l 0)) => match ofC true t l with
      | some x => some (x, ⟨[], [], []⟩)
      | none => none
    | _ => none
  | .f a r, v => match v with
    | .r (.one (.fn f caps)) => match findE tab f none with
      | some ⟨⟨.v a' :: cm, [r'], false⟩, E, _⟩ => match Ty.eq a' a, Ty.eq r' r, capVs cm caps with
        | some ⟨h1⟩, some ⟨h2⟩, some cv => match h1, h2 with
          | rfl, rfl => some (cloOf E cv, ⟨[], [], []⟩)
        | _, _, _ => none
      | _ => none
    | .r (.one (.fv f m a' r' p)) => match Ty.eq a' a, Ty.eq r' r with
      | some ⟨h1⟩, some ⟨h2⟩ => match h1, h2 with
        | rfl, rfl => some (⟨f, m, p⟩, ⟨[], [], []⟩)
      | _, _ => none
    | _ => none
def bindA {P : Program} (τ : TSt) (tab : List (AEnt P)) : (ms : List PM) → List TV → Option (DenMs P ms × AI)
  | [], [] => some ((), ⟨[], [], []⟩)
  | m :: ms, v :: vs => match bind1 τ tab m v with
    | some (x, a) => match bindA τ tab ms vs with
      | some (xs, b) => some (consM P m x ms xs, ⟨a.ln ++ b.ln, a.tk ++ b.tk, a.wi ++ b.wi⟩)
      | none => none
    | none => none
  | _, _ => none
def winWr (τ : TSt) : List (Nat × Nat) → List SD → List (Nat × TB)
  | (id, j) :: r, w :: ws => (id, setRow j ((cells w.1 w.2).map .c) (tbAt τ.h id)) :: winWr τ r ws
  | _, _ => []
section
variable {P : Program} {τ : TSt} {n b : Nat} {tab : List (AEnt P)} {c : TC} {x : SC} {l i : List Nat} {K : List Nat → Prop}
theorem wholeB (hI : Inv P τ) {id : Nat} {t : Ty} {v : Nat} {l : List (Den t)} (hw : whole t (tbAt τ.h id) = some (v, l)) : (img n τ).slot id = .live ⟨0, t.sz, [], l.map (enc t)⟩ ∧ vlen (tbAt τ.h id) = some (v, l.length) := by
  obtain ⟨w1, w2⟩ := whole_ok (hI.blks id) hw
  exact ⟨by rw [img_slot, w1], w2⟩
theorem viewC_ok (hI : Inv P τ) (hc : cok P τ.h τ.g c) (h : viewC τ c = some (x, l)) (k : K l) : vwP (img n τ) c.pv x.pv K := by
  unfold viewC at h
  split at h
  · split at h
    · simp only [Option.some.injEq, Prod.mk.injEq] at h; obtain ⟨rfl, rfl⟩ := h
      exact ⟨rfl, k⟩
    · cases h
  · rename_i o k0
    simp only [Option.some.injEq, Prod.mk.injEq] at h; obtain ⟨rfl, rfl⟩ := h
    cases o
    · exact ⟨rfl, k⟩
    · exact ⟨⟨_, rfl⟩, k⟩
  · rename_i y h1 h2
    simp only [Option.some.injEq, Prod.mk.injEq] at h; obtain ⟨rfl, rfl⟩ := h
    cases y with
    | sl o t l => exact (h1 _ _ _ rfl).elim
    | nl o k => exact (h2 _ _ rfl).elim
    | _ => exact ⟨rfl, k⟩
  · rename_i id v m
    split at h
    · rename_i v' k' hB
      split at h
      · rename_i hv
        obtain rfl := Nat.eq_of_beq_eq_true hv
        simp only [Option.some.injEq, Prod.mk.injEq] at h; obtain ⟨rfl, rfl⟩ := h
        have hm : m = 0 := hc.2 _ (by rw [hB]; rfl)
        subst hm
        have hs : (img n τ).slot id = .live ⟨0, k', [], []⟩ := by rw [img_slot, hB]; rfl
        simp only [TC.pv, SC.pv, vwP, vc, hs]
        simp only [List.length_nil, if_true, List.drop_nil, List.take_nil]
        exact ⟨trivial, k⟩
      · cases h
    · split at h
      · rename_i t ht
        split at h
        · rename_i v' l0 hw
          split at h
          · rename_i hv
            obtain rfl := Nat.eq_of_beq_eq_true hv
            simp only [Option.some.injEq, Prod.mk.injEq] at h; obtain ⟨rfl, rfl⟩ := h
            obtain ⟨hs, hl⟩ := wholeB (n := n) hI hw
            have hm : m = l0.length := hc.2 _ hl
            subst hm
            simp only [TC.pv, SC.pv, vwP, vc, hs]
            simp only [List.length_map, if_true, List.drop_zero]
            rw [List.take_of_length_le (by simp)]
            exact ⟨rfl, k⟩
          · cases h
        · cases h
      · cases h
  · rename_i id v lo len m
    split at h
    · rename_i t v' l0 hB
      split at h
      · rename_i hv
        obtain rfl := Nat.eq_of_beq_eq_true hv
        simp only [Option.some.injEq, Prod.mk.injEq] at h; obtain ⟨rfl, rfl⟩ := h
        have hm : m = l0.length := hc.1.2 _ (by rw [hB]; rfl)
        subst hm
        have hs : (img n τ).slot id = .live ⟨0, t.sz, [], l0.map (enc t)⟩ := by rw [img_slot, hB]; rfl
        simp only [TC.pv, SC.pv, vwP, vc, hs]
        simp only [List.length_map, if_true, ← List.map_drop, ← List.map_take]
        exact ⟨trivial, k⟩
      · cases h
    · cases h
  · cases h
theorem viewL_ok (hI : Inv P τ) : ∀ {cs : List TC} {xs : List SC} {l : List Nat} {K : List Nat → Prop}, (∀ c ∈ cs, cok P τ.h τ.g c) → viewL τ cs = some (xs, l) → K l → vwL (img n τ) (cs.map TC.pv) (xs.map SC.pv) K
  | [], xs, l, K, hc, h, k => by
    simp only [viewL, Option.some.injEq, Prod.mk.injEq] at h; obtain ⟨rfl, rfl⟩ := h; exact k
  | c :: cs, xs, l, K, hc, h, k => by
    simp only [viewL] at h
    split at h
    · rename_i x i hx
      split at h
      · rename_i xs' is hxs
        simp only [Option.some.injEq, Prod.mk.injEq] at h; obtain ⟨rfl, rfl⟩ := h
        exact viewC_ok hI (hc c (by simp)) hx (viewL_ok hI (K := fun l' => K (i ++ l')) (fun c hcc => hc c (by simp [hcc])) hxs k)
      · cases h
    · cases h
theorem ownC_ok (hI : Inv P τ) (hc : cok P τ.h τ.g c) (h : ownC τ c = some (x, l)) : takeP (img n τ) c.pv = some (x.pv, l) := by
  unfold ownC at h
  split at h
  · rename_i y
    simp only [Option.some.injEq, Prod.mk.injEq] at h; obtain ⟨rfl, rfl⟩ := h
    cases y <;> rfl
  · rename_i id v m
    split at h
    · rename_i v' k' hB
      split at h
      · rename_i hv
        obtain rfl := Nat.eq_of_beq_eq_true hv
        simp only [Option.some.injEq, Prod.mk.injEq] at h; obtain ⟨rfl, rfl⟩ := h
        have hm : m = 0 := hc.2 _ (by rw [hB]; rfl)
        subst hm
        have hs : (img n τ).slot id = .live ⟨0, k', [], []⟩ := by rw [img_slot, hB]; rfl
        simp [TC.pv, SC.pv, takeP, hs]
      · cases h
    · split at h
      · rename_i t ht
        split at h
        · rename_i v' l0 hw
          split at h
          · rename_i hv
            obtain rfl := Nat.eq_of_beq_eq_true hv
            simp only [Option.some.injEq, Prod.mk.injEq] at h; obtain ⟨rfl, rfl⟩ := h
            obtain ⟨hs, hl⟩ := wholeB (n := n) hI hw
            have hm : m = l0.length := hc.2 _ hl
            subst hm
            simp [TC.pv, SC.pv, takeP, hs]
          · cases h
        · cases h
      · cases h
  · cases h
theorem ownL_ok (hI : Inv P τ) : ∀ {cs : List TC} {xs : List SC} {l : List Nat}, (∀ c ∈ cs, cok P τ.h τ.g c) → ownL τ cs = some (xs, l) → takeL (img n τ) (cs.map TC.pv) = some (xs.map SC.pv, l)
  | [], xs, l, hc, h => by
    simp only [ownL, Option.some.injEq, Prod.mk.injEq] at h; obtain ⟨rfl, rfl⟩ := h; rfl
  | c :: cs, xs, l, hc, h => by
    simp only [ownL] at h
    split at h
    · rename_i x i hx
      split at h
      · rename_i xs' is hxs
        simp only [Option.some.injEq, Prod.mk.injEq] at h; obtain ⟨rfl, rfl⟩ := h
        simp only [List.map_cons, takeL, ownC_ok hI (hc c (by simp)) hx, ownL_ok hI (fun c hcc => hc c (by simp [hcc])) hxs]
      · cases h
    · cases h
theorem viewC_vc (hI : Inv P τ) (hc : cok P τ.h τ.g c) (hx : ∀ k, c ≠ .c (.nl true k)) (h : viewC τ c = some (x, l)) : vc (img n τ) c.pv = some (x.pv, l) ∧ x.pv.sh = x.pv := by
  have hw := viewC_ok (n := n) (K := (· = l)) hI hc h rfl
  have hs : x.pv.sh = x.pv := by
    unfold viewC at h
    split at h
    · split at h
      · simp only [Option.some.injEq, Prod.mk.injEq] at h; obtain ⟨rfl, rfl⟩ := h; rfl
      · cases h
    · simp only [Option.some.injEq, Prod.mk.injEq] at h; obtain ⟨rfl, rfl⟩ := h; rfl
    · rename_i y h1 h2
      simp only [Option.some.injEq, Prod.mk.injEq] at h; obtain ⟨rfl, rfl⟩ := h
      cases y with
      | sl o t l => exact (h1 _ _ _ rfl).elim
      | nl o k => exact (h2 _ _ rfl).elim
      | _ => rfl
    · split at h
      · split at h
        · simp only [Option.some.injEq, Prod.mk.injEq] at h; obtain ⟨rfl, rfl⟩ := h; rfl
        · cases h
      · split at h
        · split at h
          · split at h
            · simp only [Option.some.injEq, Prod.mk.injEq] at h; obtain ⟨rfl, rfl⟩ := h; rfl
            · cases h
          · cases h
        · cases h
    · split at h
      · split at h
        · simp only [Option.some.injEq, Prod.mk.injEq] at h; obtain ⟨rfl, rfl⟩ := h; rfl
        · cases h
      · cases h
    · cases h
  refine ⟨?_, hs⟩
  cases c with
  | c y =>
    cases y with
    | sl o t m =>
      cases o with
      | true => simp [viewC] at h
      | false => simp only [viewC, Option.some.injEq, Prod.mk.injEq] at h; obtain ⟨rfl, rfl⟩ := h; rfl
    | nl o k =>
      cases o with
      | true => exact (hx k rfl).elim
      | false => simp only [viewC, Option.some.injEq, Prod.mk.injEq] at h; obtain ⟨rfl, rfl⟩ := h; rfl
    | i k m => simp only [viewC, Option.some.injEq, Prod.mk.injEq] at h; obtain ⟨rfl, rfl⟩ := h; rfl
    | b k => simp only [viewC, Option.some.injEq, Prod.mk.injEq] at h; obtain ⟨rfl, rfl⟩ := h; rfl
    | s k => simp only [viewC, Option.some.injEq, Prod.mk.injEq] at h; obtain ⟨rfl, rfl⟩ := h; rfl
    | np => simp only [viewC, Option.some.injEq, Prod.mk.injEq] at h; obtain ⟨rfl, rfl⟩ := h; rfl
  | ref id v m =>
    simp only [TC.pv, vwP] at hw ⊢
    split at hw
    · rename_i x' l' e
      obtain ⟨rfl, rfl⟩ := hw; exact e
    · exact hw.elim
  | part id v lo len m =>
    simp only [TC.pv, vwP] at hw ⊢
    split at hw
    · rename_i x' l' e
      obtain ⟨rfl, rfl⟩ := hw; exact e
    · exact hw.elim
  | vp => simp [viewC] at h
  | hp => simp [viewC] at h
  | rp => simp [viewC] at h
  | fn => simp [viewC] at h
  | fv => simp [viewC] at h
  | un => simp [viewC] at h
theorem mixL_ok (hI : Inv P τ) : ∀ {fs : List Bool} {cs : List TC} {xs : List SC} {i l : List Nat}, (∀ c ∈ cs, cok P τ.h τ.g c) → mixL τ fs cs = some (xs, i, l) → Mix (img n τ) (cs.map TC.pv) (xs.map SC.pv) i l
  | [], [], xs, i, l, hc, h => by
    simp only [mixL, Option.some.injEq, Prod.mk.injEq] at h; obtain ⟨rfl, rfl, rfl⟩ := h; exact .nil
  | [], _ :: _, xs, i, l, hc, h => by simp [mixL] at h
  | _ :: _, [], xs, i, l, hc, h => by simp [mixL] at h
  | f :: fs, c :: cs, xs, i, l, hc, h => by
    simp only [mixL] at h
    split at h
    · rename_i x i1 l1 h1
      split at h
      · rename_i xs' i2 l2 h2
        simp only [Option.some.injEq, Prod.mk.injEq] at h; obtain ⟨rfl, rfl, rfl⟩ := h
        have ht := mixL_ok hI (fun c hcc => hc c (by simp [hcc])) h2
        cases f with
        | false =>
          simp only [mixC] at h1
          split at h1
          · rename_i y j hy
            simp only [Option.some.injEq, Prod.mk.injEq] at h1; obtain ⟨rfl, rfl, rfl⟩ := h1
            exact .tk (ownC_ok hI (hc c (by simp)) hy) ht
          · cases h1
        | true =>
          simp only [mixC] at h1
          split at h1
          · cases h1
          · rename_i hne
            split at h1
            · rename_i y j hy
              simp only [Option.some.injEq, Prod.mk.injEq] at h1; obtain ⟨rfl, rfl, rfl⟩ := h1
              obtain ⟨e1, e2⟩ := viewC_vc (n := n) hI (hc c (by simp)) (fun k e => hne k e) hy
              exact .vw e1 e2 ht
            · cases h1
      · cases h
    · cases h
theorem cellsR_ok {t : Ty} {v : TV} {cs : List TC} (h : cellsR t v = some cs) : (v = .r (.agg cs) ∧ t.agg = true) ∨ ∃ c, v = .r (.one c) ∧ t.agg = false ∧ cs = [c] := by
  unfold cellsR at h
  split at h
  · split at h
    · rename_i ha; injection h with h; subst h; exact .inl ⟨rfl, ha⟩
    · cases h
  · split at h
    · cases h
    · rename_i ha; injection h with h; subst h; exact .inr ⟨_, rfl, ha, rfl⟩
  · cases h
theorem mkR1_agg {t : Ty} (h : t.agg = true) (l : List PV) : mkR1 t l = .agg l := by
  cases t <;> first | rfl | cases h
theorem ofC_len {o : Bool} {t : Ty} {l : List SC} {v : Den t} (h : ofC o t l = some v) : l.length = t.sz := by
  have := congrArg List.length (ofC_ok h)
  simpa [enc_len] using this
theorem shoF : sho false = PV.sh := by funext p; rfl
theorem set_row {j : Nat} {ys : List TC} {cs : List TC} {id : Nat} (hc : cok P τ.h τ.g c) (h : rowAt τ c = some (cs, id, j)) :
    ∃ B full e, c.pv = .ptr id full e j ∧ (img n τ).slot id = .live B ∧ B.l.length = full ∧ B.l[e]? = some (cs.map TC.pv) ∧ (ys.length + j ≤ cs.length → (setRow j ys (tbAt τ.h id)).slot = .live { B with l := B.l.set e (splice (cs.map TC.pv) j (ys.map TC.pv)) }) := by
  unfold rowAt at h
  split at h
  · rename_i id' j'
    split at h
    · rename_i w cs' hB
      simp only [Option.some.injEq, Prod.mk.injEq] at h; obtain ⟨rfl, rfl, rfl⟩ := h
      refine ⟨⟨if w then 2 else 1, cs'.length, [], [cs'.map TC.pv]⟩, 1, 0, rfl, by rw [img_slot, hB]; rfl, rfl, rfl, fun hl => ?_⟩
      rw [hB]
      simp only [setRow, TB.slot, splice_map]
      rw [splice_len (by omega)]; rfl
    · cases h
  · rename_i id' v m e' j'
    split at h
    · rename_i t v0 hv y pre row post memo hB
      split at h
      · rename_i hvv
        obtain rfl := Nat.eq_of_beq_eq_true hvv
        simp only [Option.some.injEq, Prod.mk.injEq] at h; obtain ⟨rfl, rfl, rfl⟩ := h
        obtain ⟨rfl, rfl⟩ : m = pre.length + 1 + post.length ∧ e' = pre.length := hc.2 _ _ (by rw [hB]; rfl)
        refine ⟨⟨0, t.sz, [], pre.map (enc t) ++ row.map TC.pv :: post.map (enc t)⟩, _, _, rfl, by rw [img_slot, hB]; rfl, hole_len, hole_get, fun hl => ?_⟩
        rw [hB]
        simp only [setRow, TB.slot, splice_map, hole_set]
      · cases h
    · cases h
  · cases h
theorem sz_pos : ∀ (t : Ty), 0 < t.sz
  | .int _ => Nat.one_pos
  | .bool => Nat.one_pos
  | .str => Nat.one_pos
  | .sl _ => Nat.one_pos
  | .vw _ => Nat.one_pos
  | .pr a b => Nat.add_pos_left (sz_pos a) _
theorem agg_of_one {t : Ty} (h : t.sz = 1) : t.agg = false := by
  cases t with
  | pr a b => have h1 := sz_pos a; have h2 := sz_pos b; have : a.sz + b.sz = 1 := h; omega
  | _ => rfl
theorem capVs_ok : ∀ {cm : List PM} {l : List (List SC × Option Nat)} {cv : DenMs P cm}, capVs cm l = some cv → capPs (inL P cm cv) = some (l.map capPV)
  | [], [], cv, h => rfl
  | [], c :: l, cv, h => by simp [capVs] at h
  | m :: ms, [], cv, h => by simp [capVs] at h
  | m :: ms, c :: r, cv, h => by
    simp only [capVs] at h
    split at h
    · rename_i x hx
      split at h
      · rename_i xs hxs
        injection h with h; subst h
        rw [inL_consM]
        simp only [capPs, capVs_ok hxs, List.map_cons]
        have : capP (P := P) ⟨m, x⟩ = some (capPV c) := by
          split at hx
          · rename_i t z
            have h1 := ofC_len hx
            have ha := agg_of_one (by simpa using h1.symm)
            have h2 := ofC_ok hx
            rw [shoF] at h2
            simp only [capP, ha, ← h2]; rfl
          · rename_i t l
            have h2 := ofC_ok hx
            rw [sho_t] at h2
            simp only [capP, capPV, h2]
          · cases hx
        rw [this]
      · cases h
    · cases h
theorem viewC_nr {c : TC} {x : SC} {l : List Nat} (h : viewC τ c = some (x, l)) : NoRef x.pv := x.nr
theorem bindV_ok (hI : Inv P τ) {t : Ty} {v : TV} {cs : List TC} {ys : List SC} {ln : List Nat} {y : Den t} (hv : ∀ c ∈ v.cs, cok P τ.h τ.g c) (hcs : cellsR t v = some cs) (hys : viewL τ cs = some (ys, ln)) (hy : ofV t ys = some y)
    {vs : List RV} {args : List Arg} {Q : List Nat → List Nat → List (Nat × Slot) → Prop} (k' : callPrep (img n τ) vs args fun tk ln' wr => Q tk (ln ++ ln') wr) : callPrep (img n τ) (v.rv :: vs) (.v (mkR1 t ((enc t y).map PV.sh)) :: args) Q := by
  have e := ofV_imp hy
  have hnr := enc_sh_nr t y
  have hlen : ((enc t y).map PV.sh).length = t.sz := by simp [enc_len]
  have hlen2 : (ys.map SC.pv).length = t.sz := by rw [e.len, hlen]
  have hnr2 : ∀ p ∈ (mkR1 t (ys.map SC.pv)).cs, NoRef p := by rw [mkR1_cs _ _ hlen2]; exact nr_map
  refine ⟨by rw [mkR1_cs _ _ hlen]; exact hnr, ?_⟩
  rcases cellsR_ok hcs with ⟨rfl, ha⟩ | ⟨c, rfl, ha, rfl⟩
  · refine ⟨mkR1 t (ys.map SC.pv), hnr2, e.toR hlen, ?_⟩
    rw [mkR1_agg ha]
    exact viewL_ok hI hv hys k'
  · refine ⟨mkR1 t (ys.map SC.pv), hnr2, e.toR hlen, ?_⟩
    rw [mkR1_one ha]
    have := viewL_ok (n := n) hI hv hys (K := fun l => callPrep (img n τ) vs args fun tk ln' wr => Q tk (l ++ ln') wr) k'
    obtain ⟨z, rfl⟩ : ∃ z, ys = [z] := by
      have : t.sz = 1 := by cases t <;> first | rfl | cases ha
      exact List.length_eq_one_iff.1 (by simpa [this] using hlen2)
    have this : vwP (img n τ) c.pv z.pv fun l => callPrep (img n τ) vs args fun tk ln' wr => Q tk (l ++ [] ++ ln') wr := this
    simp only [List.append_nil] at this
    exact this
def tailW (m : PM) (wl : List SD) : List SD := match m with
  | .w _ => wl.tail
  | _ => wl
theorem bind1_ok (hI : Inv P τ) {m : PM} {v : TV} {x : DenM P m} {a : AI} (hv : ∀ c ∈ v.cs, cok P τ.h τ.g c) (h : bind1 τ tab m v = some (x, a)) {ms : List PM} {xs : DenMs P ms} {vs : List RV} {wl : List SD} {Q : List Nat → List Nat → List (Nat × Slot) → Prop} (hw : ∀ t, m = .w t → ∃ w r, wl = w :: r ∧ w.1 = t)
    (k : callPrep (img n τ) vs (argsL (inL P ms xs) (tailW m wl)) fun tk ln wr => Q (a.tk ++ tk) (a.ln ++ ln) ((winWr τ a.wi wl).map wsl ++ wr)) :
    callPrep (img n τ) (v.rv :: vs) (argsL (⟨m, x⟩ :: inL P ms xs) wl) Q := by
  cases m with
  | v t =>
    simp only [bind1] at h
    split at h
    · rename_i cs hcs
      split at h
      · rename_i ys ln hys
        split at h
        · rename_i y hy
          simp only [Option.some.injEq, Prod.mk.injEq] at h; obtain ⟨rfl, rfl⟩ := h
          have k' : callPrep (img n τ) vs (argsL (inL P ms xs) wl) fun tk ln' wr => Q tk (ln ++ ln') wr := by simpa [winWr, tailW] using k
          exact bindV_ok hI hv hcs hys hy k'
        · cases h
      · cases h
    · cases h
  | o t =>
    simp only [bind1] at h
    split at h
    · rename_i cs hcs
      split at h
      · rename_i ys tk ln hys
        split at h
        · rename_i y hy
          simp only [Option.some.injEq, Prod.mk.injEq] at h; obtain ⟨rfl, rfl⟩ := h
          have e := ofC_ok hy
          rw [sho_t] at e
          have hlen := enc_len t y
          have k' : callPrep (img n τ) vs (argsL (inL P ms xs) wl) fun tk' ln' wr => Q (tk ++ tk') (ln ++ ln') wr := by simpa [winWr, tailW] using k
          refine ⟨by rw [mkR1_cs _ _ hlen]; exact enc_nr t y, ?_⟩
          have ht : Mix (img n τ) (cs.map TC.pv) (ys.map SC.pv) tk ln := by
            rcases cellsR_ok hcs with ⟨rfl, ha⟩ | ⟨c, rfl, ha, rfl⟩
            · exact mixL_ok (n := n) hI hv hys
            · exact mixL_ok (n := n) hI hv hys
          rcases cellsR_ok hcs with ⟨rfl, ha⟩ | ⟨c, rfl, ha, rfl⟩
          · rw [mkR1_agg ha, ← e]
            exact ⟨tk, ln, ht, k'⟩
          · rw [mkR1_one ha, ← e]
            obtain ⟨z, rfl⟩ : ∃ z, ys = [z] := by
              have h1 := ofC_len hy
              have : t.sz = 1 := by cases t <;> first | rfl | cases ha
              exact List.length_eq_one_iff.1 (by omega)
            exact ⟨tk, ln, ht, k'⟩
        · cases h
      · cases h
    · cases h
  | w t =>
    obtain ⟨w, wl', rfl, hwt⟩ := hw t rfl
    simp only [bind1] at h
    split at h
    · rename_i c
      split at h
      · rename_i cs id j hrow
        split at h
        · rename_i ys h1 h2 h3
          have h1 := Nat.le_of_ble_eq_true h1
          have h2 := Nat.le_of_ble_eq_true h2
          split at h
          · rename_i y hy
            simp only [Option.some.injEq, Prod.mk.injEq] at h; obtain ⟨rfl, rfl⟩ := h
            have hc := hv c (by simp [TV.cs, TR.cs])
            have hwl : ((cells w.1 w.2).map TC.c).length = t.sz := by simp [cells_len, hwt]
            obtain ⟨B, full, e, e1, e2, e3, e4, e5⟩ := set_row (n := n) (ys := (cells w.1 w.2).map TC.c) hc hrow
            have e6 := e5 (by omega)
            have hpv : ((cells w.1 w.2).map TC.c).map TC.pv = enc w.1 w.2 := by rw [List.map_map, ← cells_pv]; rfl
            rw [hpv] at e6
            refine ⟨enc_nr t y, ?_⟩
            simp only [TV.rv, TR.r1, RV.one1, e1, e2]
            refine ⟨e3, cs.map TC.pv, e4, ?_, by rw [enc_len]; omega, by simpa [enc_len] using h1, ?_⟩
            · rw [enc_len, ← List.map_drop, ← List.map_take]
              exact toV_ok h3 hy
            · have k' : callPrep (img n τ) vs (argsL (inL P ms xs) wl') fun tk ln wr => Q tk ln ((id, (setRow j ((cells w.1 w.2).map TC.c) (tbAt τ.h id)).slot) :: wr) := by simpa [winWr, wsl, tailW] using k
              rw [e6] at k'
              exact k'
          · cases h
        · cases h
      · cases h
    · cases h
  | rp t =>
    simp only [bind1] at h
    split at h
    · rename_i l
      split at h
      · rename_i y hy
        simp only [Option.some.injEq, Prod.mk.injEq] at h; obtain ⟨rfl, rfl⟩ := h
        have e := ofC_ok hy
        rw [sho_t] at e
        have k' : callPrep (img n τ) vs (argsL (inL P ms xs) wl) fun tk ln wr => Q tk ln wr := by simpa [winWr, tailW] using k
        have hnr : ∀ p ∈ (R1.one (PV.rp (enc t y) 0)).cs, NoRef p := by
          intro p hp
          have : p = .rp (enc t y) 0 := by simpa [R1.cs] using hp
          subst this
          exact .rp (enc_nr t y)
        refine ⟨hnr, .one (.rp (enc t y) 0), hnr, ImpR.refl _, ?_⟩
        simp only [TR.r1, TC.pv, e, vwR, vwP, vc]
        exact ⟨trivial, k'⟩
      · cases h
    · cases h
  | f a r =>
    simp only [bind1] at h
    split at h
    · rename_i f caps
      split at h
      · rename_i a' cm r' E _ hE
        split at h
        · rename_i h1 h2 cv _ _ hcv
          subst h1 h2
          simp only [Option.some.injEq, Prod.mk.injEq] at h; obtain ⟨rfl, rfl⟩ := h
          have hid := findE_ok hE
          have hcp := capVs_ok hcv
          have hm : (cloOf E cv).m = caps.map capPV := by simp only [cloOf, hcp]
          have hf : (cloOf E cv).f = f := hid
          have k' : callPrep (img n τ) vs (argsL (inL P ms xs) wl) fun tk ln wr => Q tk ln wr := by simpa [winWr, tailW] using k
          have hnr : ∀ p ∈ (R1.one (PV.fn (cloOf E cv).f (cloOf E cv).m)).cs, NoRef p := by
            intro p hp
            have : p = .fn f (caps.map capPV) := by simpa [R1.cs, hm, hf] using hp
            subst this
            refine .fn fun q hq => ?_
            obtain ⟨z, _, rfl⟩ := List.mem_map.1 hq
            exact capPV_nr z
          refine ⟨hnr, _, hnr, ImpR.refl _, ?_⟩
          simp only [TR.r1, TC.pv, vwR, vwP, vc, hm, hf]
          exact ⟨trivial, k'⟩
        · cases h
      · cases h
    · rename_i f m a' r' p
      split at h
      · rename_i h1 h2 _ _
        subst h1 h2
        simp only [Option.some.injEq, Prod.mk.injEq] at h; obtain ⟨rfl, rfl⟩ := h
        have hck : (∀ z ∈ m, NoRef z ∧ z.frz = true) ∧ _ := hv (.fv f m a' r' p) (by simp [TV.cs, TR.cs])
        have k' : callPrep (img n τ) vs (argsL (inL P ms xs) wl) fun tk ln wr => Q tk ln wr := by simpa [winWr, tailW] using k
        have hnr : ∀ q ∈ (R1.one (PV.fn f m)).cs, NoRef q := by
          intro q hq
          have : q = .fn f m := by simpa [R1.cs] using hq
          subst this
          exact .fn fun z hz => (hck.1 z hz).1
        refine ⟨hnr, _, hnr, ImpR.refl _, ?_⟩
        simp only [TR.r1, TC.pv, vwR, vwP, vc]
        exact ⟨trivial, k'⟩
      · cases h
    · cases h
theorem capVs_sm : ∀ {cm : List PM} {l : List (List SC × Option Nat)} {cv : DenMs P cm}, capVs cm l = some cv → SMOk (inL P cm cv)
  | [], [], cv, h => trivial
  | [], c :: l, cv, h => by simp [capVs] at h
  | m :: ms, [], cv, h => by simp [capVs] at h
  | m :: ms, c :: r, cv, h => by
    simp only [capVs] at h
    split at h
    · rename_i x hx
      split at h
      · rename_i xs hxs
        injection h with h; subst h
        rw [inL_consM]
        have := capVs_sm hxs
        split at hx
        · exact this
        · exact this
        · cases hx
      · cases h
    · cases h
theorem bind1_sm {m : PM} {v : TV} {x : DenM P m} {a : AI} (hv : ∀ c ∈ v.cs, cok P τ.h τ.g c) (h : bind1 τ tab m v = some (x, a)) {l : List (SM P)} (k : SMOk l) : SMOk (⟨m, x⟩ :: l) := by
  cases m with
  | f a r =>
    simp only [bind1] at h
    split at h
    · rename_i f caps
      split at h
      · rename_i a' cm r' E _ hE
        split at h
        · rename_i h1 h2 cv _ _ hcv
          subst h1 h2
          simp only [Option.some.injEq, Prod.mk.injEq] at h; obtain ⟨rfl, rfl⟩ := h
          exact ⟨cloOf_ok E cv (capVs_sm hcv), k⟩
        · cases h
      · cases h
    · rename_i f m a' r' p
      split at h
      · rename_i h1 h2 _ _
        subst h1 h2
        simp only [Option.some.injEq, Prod.mk.injEq] at h; obtain ⟨rfl, rfl⟩ := h
        exact ⟨hv (.fv f m a' r' p) (by simp [TV.cs, TR.cs]), k⟩
      · cases h
    · cases h
  | _ => exact k
theorem bindA_sm : ∀ {ms : List PM} {vs : List TV} {x : DenMs P ms} {a : AI}, (∀ v ∈ vs, ∀ c ∈ v.cs, cok P τ.h τ.g c) → bindA τ tab ms vs = some (x, a) → SMOk (inL P ms x)
  | [], [], x, a, hv, h => trivial
  | m :: ms, v :: vs, x, a, hv, h => by
    simp only [bindA] at h
    split at h
    · rename_i x1 a1 h1
      split at h
      · rename_i xs b1 h2
        simp only [Option.some.injEq, Prod.mk.injEq] at h; obtain ⟨rfl, rfl⟩ := h
        rw [inL_consM]
        exact bind1_sm (hv v (by simp)) h1 (bindA_sm (fun v hv' => hv v (by simp [hv'])) h2)
      · cases h
    · cases h
  | [], _ :: _, x, a, hv, h => by simp [bindA] at h
  | _ :: _, [], x, a, hv, h => by simp [bindA] at h
end
def memB (x : Nat) : List Nat → Bool
  | [] => false
  | y :: r => Nat.beq x y || memB x r
def nodupB : List Nat → Bool
  | [] => true
  | x :: r => !memB x r && nodupB r
def disjB : List Nat → List Nat → Bool
  | [], _ => true
  | x :: r, l => !memB x l && disjB r l
def liveB : TB → Bool
  | .var _ _ => true
  | .nb _ _ => true
  | .sl _ _ _ => true
  | .hole .. => true
  | _ => false
def allLive (h : List TB) : List Nat → Bool
  | [] => true
  | i :: r => liveB (tbAt h i) && allLive h r
def fsts : List (Nat × Nat) → List Nat
  | [] => []
  | (i, _) :: r => i :: fsts r
def idsOk (τ : TSt) (a : AI) : Bool :=
  nodupB a.tk && nodupB (fsts a.wi) && disjB a.tk (fsts a.wi) && disjB a.ln a.tk && disjB a.ln (fsts a.wi) && allLive τ.h a.ln && allLive τ.h a.tk && allLive τ.h (fsts a.wi)
def tdeads : List Nat → List (Nat × TB)
  | [] => []
  | i :: r => (i, .dead) :: tdeads r
def thawTs (g : Nat) : Nat → List SD → List TR × List (Nat × TB)
  | _, [] => ([], [])
  | b, w :: r =>
    let z := tthaw g b ((cells w.1 w.2).map .c)
    ((match w.1.agg with | true => .agg z.1 | false => .one (z.1.headD .un)) :: (thawTs g (b + z.2.length) r).1, z.2 ++ (thawTs g (b + z.2.length) r).2)
def resTV : List TR → TV
  | [y] => .r y
  | l => .tup l
def isNil {α : Type} : List α → Bool
  | [] => true
  | _ => false
def allVm : List PM → Bool
  | [] => true
  | .v _ :: r => allVm r
  | .rp _ :: r => allVm r
  | .f _ _ :: r => allVm r
  | _ => false
def ownTs : List Ty → Bool
  | [] => true
  | t :: r => t.own && ownTs r
def callT {P : Program} (τ : TSt) (tab : List (AEnt P)) (b : Nat) (E : AEnt P) (vs : List TV) {R : Type} (K : TE → Option R) : Option R :=
  match bindA τ tab E.s.ms vs with
  | some (x, a) => match idsOk τ a && (isNil a.ln || ownTs E.s.outs) with
    | true => bd (E.e.f x) fun y => match E.s.box with
      | false => K { v := resTV (thawTs τ.g b ((outL _ y).take E.s.rs.length)).1, wh := winWr τ a.wi ((outL _ y).drop E.s.rs.length) ++ (tdeads a.tk ++ (thawTs τ.g b ((outL _ y).take E.s.rs.length)).2), rd := a.ln ++ (a.tk ++ fsts a.wi), g := τ.g + 1 }
      | true => match isNil a.ln && isNil a.tk && isNil a.wi && allVm E.s.ms with
        | true => K { v := .r (.one (.vp b 0)), wh := [(b, .var false (((outL _ y).flatMap fun w => cells w.1 w.2).map .c))], g := τ.g }
        | false => none
    | false => none
  | none => none
theorem isNil_ok {α : Type} {l : List α} (h : isNil l = true) : l = [] := by cases l <;> first | rfl | cases h
theorem ownTs_ok : ∀ {l : List Ty}, ownTs l = true → ∀ t ∈ l, t.own = true
  | [], _, t, h => by cases h
  | u :: r, h, t, ht => by
    simp only [ownTs, Bool.and_eq_true] at h
    rcases List.mem_cons.1 ht with rfl | ht
    · exact h.1
    · exact ownTs_ok h.2 t ht
theorem memB_ok : ∀ {x : Nat} {l : List Nat}, memB x l = false → x ∉ l
  | x, [], _, h => by cases h
  | x, y :: r, h, hm => by
    simp only [memB, Bool.or_eq_false_iff] at h
    rcases List.mem_cons.1 hm with rfl | hm
    · rw [Nat.beq_refl] at h; cases h.1
    · exact memB_ok h.2 hm
theorem nodupB_ok : ∀ {l : List Nat}, nodupB l = true → l.Nodup
  | [], _ => List.nodup_nil
  | x :: r, h => by
    simp only [nodupB, Bool.and_eq_true, Bool.not_eq_eq_eq_not, Bool.not_true] at h
    exact List.nodup_cons.2 ⟨memB_ok h.1, nodupB_ok h.2⟩
theorem disjB_ok : ∀ {l m : List Nat}, disjB l m = true → ∀ i ∈ l, i ∉ m
  | [], m, _, i, hi => by cases hi
  | x :: r, m, h, i, hi => by
    simp only [disjB, Bool.and_eq_true, Bool.not_eq_eq_eq_not, Bool.not_true] at h
    rcases List.mem_cons.1 hi with rfl | hi
    · exact memB_ok h.1
    · exact disjB_ok h.2 i hi
theorem allLive_ok {h : List TB} : ∀ {l : List Nat}, allLive h l = true → ∀ i ∈ l, liveB (tbAt h i) = true
  | [], _, i, hi => by cases hi
  | x :: r, k, i, hi => by
    simp only [allLive, Bool.and_eq_true] at k
    rcases List.mem_cons.1 hi with rfl | hi
    · exact k.1
    · exact allLive_ok k.2 i hi
theorem fsts_eq : ∀ (l : List (Nat × Nat)), fsts l = l.map (·.1)
  | [] => rfl
  | (i, _) :: r => by simp [fsts, fsts_eq r]
theorem outL_ty : ∀ (ts : List Ty) (y : DenOs ts), (outL ts y).map (·.1) = ts
  | [], _ => rfl
  | [t], _ => rfl
  | t :: u :: ts, y => by simp only [outL, List.map_cons, outL_ty (u :: ts) y.2]
def WOk (P : Program) (τ : TSt) : List (Nat × Nat) → List SD → Prop
  | [], [] => True
  | (id, j) :: r, w :: ws => (∃ c cs, cok P τ.h τ.g c ∧ rowAt τ c = some (cs, id, j) ∧ j + w.1.sz ≤ cs.length) ∧ WOk P τ r ws
  | _, _ => False
section
variable {P : Program} {τ : TSt} {n b : Nat} {tab : List (AEnt P)} {R : Type} {K : TE → Option R} {r : R}
theorem bind1_w (hI : Inv P τ) {m : PM} {v : TV} {x : DenM P m} {a : AI} (hv : ∀ c ∈ v.cs, cok P τ.h τ.g c) (h : bind1 τ tab m v = some (x, a)) {r : List (Nat × Nat)} {wl : List SD} (hw : ∀ t, m = .w t → ∃ w r, wl = w :: r ∧ w.1 = t) (k : WOk P τ r (tailW m wl)) : WOk P τ (a.wi ++ r) wl := by
  cases m with
  | w t =>
    obtain ⟨w, wl', rfl, hwt⟩ := hw t rfl
    simp only [bind1] at h
    split at h
    · rename_i c
      split at h
      · rename_i cs id j hrow
        split at h
        · rename_i ys h1 h2 h3
          have h1 := Nat.le_of_ble_eq_true h1
          split at h
          · simp only [Option.some.injEq, Prod.mk.injEq] at h; obtain ⟨rfl, rfl⟩ := h
            exact ⟨⟨c, cs, hv c (by simp [TV.cs, TR.cs]), hrow, by rw [hwt]; exact h1⟩, k⟩
          · cases h
        · cases h
      · cases h
    · cases h
  | v t =>
    have : a.wi = [] := by
      simp only [bind1] at h
      split at h
      · split at h
        · split at h
          · simp only [Option.some.injEq, Prod.mk.injEq] at h; obtain ⟨_, rfl⟩ := h; rfl
          · cases h
        · cases h
      · cases h
    rw [this]; exact k
  | o t =>
    have : a.wi = [] := by
      simp only [bind1] at h
      split at h
      · split at h
        · split at h
          · simp only [Option.some.injEq, Prod.mk.injEq] at h; obtain ⟨_, rfl⟩ := h; rfl
          · cases h
        · cases h
      · cases h
    rw [this]; exact k
  | rp t =>
    have : a.wi = [] := by
      simp only [bind1] at h
      split at h
      · split at h
        · simp only [Option.some.injEq, Prod.mk.injEq] at h; obtain ⟨_, rfl⟩ := h; rfl
        · cases h
      · cases h
    rw [this]; exact k
  | f a' r' =>
    have : a.wi = [] := by
      simp only [bind1] at h
      split at h
      · split at h
        · split at h
          · rename_i h1 h2 cv _ _ hcv
            subst h1 h2
            simp only [Option.some.injEq, Prod.mk.injEq] at h; obtain ⟨_, rfl⟩ := h; rfl
          · cases h
        · cases h
      · split at h
        · rename_i h1 h2 _ _
          subst h1 h2
          simp only [Option.some.injEq, Prod.mk.injEq] at h; obtain ⟨_, rfl⟩ := h; rfl
        · cases h
      · cases h
    rw [this]; exact k
theorem winT_w {m : PM} {ms : List PM} {wl : List SD} (h : wl.map (·.1) = winT (m :: ms)) : (∀ t, m = .w t → ∃ w r, wl = w :: r ∧ w.1 = t) ∧ (tailW m wl).map (·.1) = winT ms := by
  cases m with
  | w t =>
    cases wl with
    | nil => simp [winT] at h
    | cons w wl =>
      simp only [winT, List.map_cons, List.cons.injEq] at h
      refine ⟨fun t' e => ?_, h.2⟩
      injection e with e; subst e
      exact ⟨w, wl, rfl, h.1⟩
  | _ => exact ⟨fun t e => (by cases e), h⟩
theorem bindA_ok (hI : Inv P τ) : ∀ {ms : List PM} {vs : List TV} {x : DenMs P ms} {a : AI} {wl : List SD} {Q : List Nat → List Nat → List (Nat × Slot) → Prop}, (∀ v ∈ vs, ∀ c ∈ v.cs, cok P τ.h τ.g c) → bindA τ tab ms vs = some (x, a) → wl.map (·.1) = winT ms →
    WOk P τ a.wi wl ∧ (Q a.tk a.ln ((winWr τ a.wi wl).map wsl) → callPrep (img n τ) (vs.map TV.rv) (argsL (inL P ms x) wl) Q)
  | [], [], x, a, wl, Q, hv, h, hw => by
    simp only [bindA, Option.some.injEq, Prod.mk.injEq] at h; obtain ⟨_, rfl⟩ := h
    have : wl = [] := by simpa [winT] using hw
    subst this
    exact ⟨trivial, fun k => k⟩
  | m :: ms, v :: vs, x, a, wl, Q, hv, h, hw => by
    simp only [bindA] at h
    split at h
    · rename_i x1 a1 h1
      split at h
      · rename_i xs b1 h2
        simp only [Option.some.injEq, Prod.mk.injEq] at h; obtain ⟨rfl, rfl⟩ := h
        obtain ⟨w1, w2⟩ := winT_w hw
        obtain ⟨i1, i2⟩ := bindA_ok hI (Q := fun tk ln wr => Q (a1.tk ++ tk) (a1.ln ++ ln) ((winWr τ a1.wi wl).map wsl ++ wr)) (fun v hv' => hv v (by simp [hv'])) h2 w2
        have hw1 := bind1_w hI (hv v (by simp)) h1 w1 i1
        refine ⟨hw1, fun k => ?_⟩
        rw [inL_consM]
        refine bind1_ok hI (hv v (by simp)) h1 w1 (i2 ?_)
        have key : winWr τ (a1.wi ++ b1.wi) wl = winWr τ a1.wi wl ++ winWr τ b1.wi (tailW m wl) := by
          have hz : a1.wi = [] ∧ tailW m wl = wl ∨ ∃ id j w r, a1.wi = [(id, j)] ∧ wl = w :: r ∧ tailW m wl = r := by
            cases m with
            | w t =>
              obtain ⟨w, r, rfl, _⟩ := w1 t rfl
              right
              simp only [bind1] at h1
              split at h1
              · split at h1
                · split at h1
                  · split at h1
                    · simp only [Option.some.injEq, Prod.mk.injEq] at h1; obtain ⟨_, rfl⟩ := h1
                      exact ⟨_, _, w, r, rfl, rfl, rfl⟩
                    · cases h1
                  · cases h1
                · cases h1
              · cases h1
            | _ =>
              left
              have h3 := bind1_w hI (hv v (by simp)) h1 (r := []) (wl := []) (fun t e => by cases e) trivial
              refine ⟨?_, rfl⟩
              rw [List.append_nil] at h3
              cases hwi : a1.wi with
              | nil => rfl
              | cons y ys => rw [hwi] at h3; exact h3.elim
          rcases hz with ⟨e1, e2⟩ | ⟨id, j, w, r, e1, e2, e3⟩
          · rw [e1, e2]; simp [winWr]
          · rw [e3, e1, e2]; simp [winWr]
        rw [key, List.map_append] at k
        exact k
      · cases h
    · cases h
  | [], _ :: _, x, a, wl, Q, hv, h, hw => by simp [bindA] at h
  | _ :: _, [], x, a, wl, Q, hv, h, hw => by simp [bindA] at h
end
theorem cells_c (t : Ty) (v : Den t) : ((cells t v).map TC.c).map TC.pv = enc t v := by rw [List.map_map, ← cells_pv]; rfl
theorem headD_map (l : List TC) : (l.map TC.pv).headD .un = (l.headD .un).pv := by cases l <;> rfl
theorem thawTs_ok (g : Nat) : ∀ (b : Nat) (l : List SD), thawRs b (l.map resR) = ((thawTs g b l).1.map TR.r1, (thawTs g b l).2.map wsl)
  | b, [] => rfl
  | b, w :: r => by
    have e1 := tthaw_ok g b ((cells w.1 w.2).map .c)
    rw [cells_c] at e1
    have hcs : (resR w).cs = enc w.1 w.2 := mkR1_cs _ _ (enc_len _ _)
    have hth : thawR b (resR w) = (match w.1.agg with | true => TR.agg (tthaw g b ((cells w.1 w.2).map .c)).1 | false => TR.one ((tthaw g b ((cells w.1 w.2).map .c)).1.headD .un)).r1 := by
      cases ha : w.1.agg with
      | true =>
        simp only [resR, mkR1_agg ha, thawR, e1, TR.r1]
      | false =>
        obtain ⟨p, hp⟩ : ∃ p, enc w.1 w.2 = [p] := by
          have h1 : w.1.sz = 1 := by
            revert ha; cases w.1 <;> first | (intro _; rfl) | (intro h; cases h)
          exact List.length_eq_one_iff.1 (by rw [enc_len]; exact h1)
        simp only [resR, mkR1_one ha, thawR, TR.r1]
        rw [hp] at e1 ⊢
        simp only [List.headD_cons, e1, headD_map]
    simp only [List.map_cons, thawRs, hth, hcs, e1, thawTs, List.length_map, List.map_append]
    rw [thawTs_ok g _ r] <;> rfl
theorem thawTs_blk {g : Nat} : ∀ {b : Nat} {l : List SD} {e : Nat × TB}, e ∈ (thawTs g b l).2 → b ≤ e.1 ∧ ((∃ t l, e.2 = .sl t g l) ∨ ∃ k, e.2 = .nb g k)
  | b, [], e, h => by simp [thawTs] at h
  | b, w :: r, e, h => by
    simp only [thawTs, List.mem_append] at h
    rcases h with h | h
    · exact tthaw_blk h
    · have := thawTs_blk h
      exact ⟨by omega, this.2⟩
theorem thawTs_ids (g : Nat) : ∀ (b : Nat) (l : List SD), (thawTs g b l).2.map (·.1) = List.range' b (thawTs g b l).2.length
  | b, [] => rfl
  | b, w :: r => by
    simp only [thawTs, List.map_append, List.length_append]
    rw [tthaw_ids, thawTs_ids g _ r, ← List.range'_append_1]
theorem thawTs_cell {g : Nat} : ∀ {b : Nat} {l : List SD} {y : TR} {c : TC}, y ∈ (thawTs g b l).1 → c ∈ y.cs → c = .un ∨ (∃ x, c = .c x) ∨ ∃ id tb m, c = .ref id g m ∧ (id, tb) ∈ (thawTs g b l).2 ∧ ∀ v m', vlen tb = some (v, m') → m = m'
  | b, [], y, c, h, hc => by simp [thawTs] at h
  | b, w :: r, y, c, h, hc => by
    simp only [thawTs, List.mem_cons] at h
    have key : ∀ c ∈ (tthaw g b ((cells w.1 w.2).map .c)).1, (∃ x, c = .c x) ∨ ∃ id tb m, c = .ref id g m ∧ (id, tb) ∈ (thawTs g b (w :: r)).2 ∧ ∀ v m', vlen tb = some (v, m') → m = m' := by
      intro c hc
      rcases tthaw_cell hc with k | ⟨id, tb, m, k1, k2, k3⟩
      · obtain ⟨x, _, rfl⟩ := List.mem_map.1 k; exact .inl ⟨x, rfl⟩
      · exact .inr ⟨id, tb, m, k1, by simp [thawTs, k2], k3⟩
    rcases h with rfl | h
    · split at hc
      · exact .inr (key c hc)
      · have hc : c = (tthaw g b ((cells w.1 w.2).map .c)).1.headD .un := by simpa [TR.cs] using hc
        cases hz : (tthaw g b ((cells w.1 w.2).map .c)).1 with
        | nil => rw [hz] at hc; exact .inl hc
        | cons z zs => rw [hz] at hc; exact .inr (key c (by rw [hz, hc]; simp))
    · rcases thawTs_cell h hc with k | k | ⟨id, tb, m, k1, k2, k3⟩
      · exact .inl k
      · exact .inr (.inl k)
      · exact .inr (.inr ⟨id, tb, m, k1, by simp [thawTs, k2], k3⟩)
theorem resTV_rv (l : List TR) : (resTV l).rv = resRV (l.map TR.r1) := by
  match l with
  | [] => rfl
  | [y] => rfl
  | y :: z :: r => rfl
theorem resTV_cs {l : List TR} {c : TC} (h : c ∈ (resTV l).cs) : ∃ y ∈ l, c ∈ y.cs := by
  match l, h with
  | [y], h => exact ⟨y, by simp, h⟩
  | y :: z :: r, h => simpa [resTV, TV.cs, List.mem_flatMap] using h
theorem tdeads_wsl : ∀ (l : List Nat), (tdeads l).map wsl = deads l
  | [] => rfl
  | i :: r => by simp only [tdeads, List.map_cons, deads, tdeads_wsl r]; rfl
theorem tdeads_ids : ∀ (l : List Nat), (tdeads l).map (·.1) = l
  | [] => rfl
  | i :: r => by simp [tdeads, tdeads_ids r]
theorem tdeads_mem : ∀ {l : List Nat} {e : Nat × TB}, e ∈ tdeads l → e.2 = .dead
  | i :: r, e, h => by
    rcases List.mem_cons.1 h with rfl | h
    · rfl
    · exact tdeads_mem h
section
variable {P : Program} {τ : TSt} {n b : Nat} {tab : List (AEnt P)} {R : Type} {K : TE → Option R} {r : R}
theorem winWr_ids : ∀ {wi : List (Nat × Nat)} {ws : List SD}, WOk P τ wi ws → (winWr τ wi ws).map (·.1) = fsts wi
  | [], [], _ => rfl
  | (id, j) :: r, w :: ws, h => by simp [winWr, fsts, winWr_ids h.2]
  | [], _ :: _, h => h.elim
  | _ :: _, [], h => h.elim
theorem winWr_mem : ∀ {wi : List (Nat × Nat)} {ws : List SD} {e : Nat × TB}, WOk P τ wi ws → e ∈ winWr τ wi ws → ∃ (j : Nat) (w : SD) (c : TC) (cs : List TC), e.2 = setRow j ((cells w.1 w.2).map .c) (tbAt τ.h e.1) ∧ cok P τ.h τ.g c ∧ rowAt τ c = some (cs, e.1, j) ∧ j + w.1.sz ≤ cs.length
  | (id, j) :: r, w :: ws, e, h, he => by
    obtain ⟨⟨c, cs, k1, k2, k3⟩, h⟩ := h
    simp only [winWr, List.mem_cons] at he
    rcases he with rfl | he
    · exact ⟨j, w, c, cs, rfl, k1, k2, k3⟩
    · exact winWr_mem h he
  | [], _, e, _, he => by simp [winWr] at he
theorem setRow_vlen {j : Nat} {ys : List TC} {tb : TB} : vlen (setRow j ys tb) = vlen tb := by cases tb <;> rfl
theorem setRow_hinf {j : Nat} {ys : List TC} {tb : TB} : hinf (setRow j ys tb) = hinf tb := by cases tb <;> rfl
theorem liveB_lt {i : Nat} (h : liveB (tbAt τ.h i) = true) : i < τ.h.length := tbAt_lt fun e => by rw [e] at h; cases h
theorem liveB_slot {tb : TB} (h : liveB tb = true) : tb.slot.isLive = true := by cases tb <;> first | rfl | cases h
theorem allVm_ok : ∀ {ms : List PM} {x : DenMs P ms} {wl : List SD}, allVm ms = true → allV (argsL (inL P ms x) wl) = true := by
  have key : ∀ (l : List (SM P)) (wl : List SD), allVm (l.map (·.1)) = true → allV (argsL l wl) = true := by
    intro l
    induction l with
    | nil => intro wl _; rfl
    | cons y l ih =>
      intro wl h
      obtain ⟨m, x⟩ := y
      cases m with
      | v t => exact ih wl h
      | rp t => exact ih wl h
      | f a r => exact ih wl h
      | o t => cases h
      | w t => cases h
  intro ms x wl h
  refine key _ wl ?_
  have : ∀ (ms : List PM) (x : DenMs P ms), (inL P ms x).map (·.1) = ms := by
    intro ms
    induction ms with
    | nil => intro x; rfl
    | cons m ms ih =>
      intro x
      cases ms with
      | nil => rfl
      | cons m' ms => simp only [inL, List.map_cons]; rw [ih]
  rw [this]; exact h
theorem callT_ok (hI : Inv P τ) (hb : τ.h.length ≤ b) {E : AEnt P} {vs : List TV} (hv : ∀ v ∈ vs, ∀ c ∈ v.cs, cok P τ.h τ.g c) (h : callT τ tab b E vs K = some r) :
    (E.s.box = false ∧ callK P (img n τ) b E.e.id (vs.map TV.rv) (fun F => ∃ te, F = te.img ∧ OkE P τ te ∧ K te = some r)) ∨ (E.s.box = true ∧ boxK P (img n τ) b E.e.id (vs.map TV.rv) (fun F => ∃ te, F = te.img ∧ OkE P τ te ∧ K te = some r)) := by
  unfold callT at h
  split at h
  · rename_i x a hx
    split at h
    · rename_i hids
      rw [Bool.and_eq_true] at hids
      obtain ⟨hids, hown⟩ := hids
      obtain ⟨y, hy, h⟩ := bd_some h
      have hok := E.e.ok x y (bindA_sm hv hx) hy
      simp only [idsOk, Bool.and_eq_true] at hids
      obtain ⟨⟨⟨⟨⟨⟨⟨d1, d2⟩, d3⟩, d4⟩, d5⟩, d6⟩, d7⟩, d8⟩ := hids
      have hty := outL_ty _ y
      have hws : ((outL _ y).drop E.s.rs.length).map (·.1) = winT E.s.ms := by rw [List.map_drop, hty]; simp
      split at h
      · rename_i hbox
        refine .inl ⟨hbox, ?_⟩
        simp only [ConE, hbox] at hok
        obtain ⟨hwok, hprep⟩ := bindA_ok (n := n) (Q := fun tk ln wr => tk.Nodup ∧ (wr.map (·.1)).Nodup ∧ (∀ i ∈ tk, i ∉ wr.map (·.1)) ∧ (∀ i ∈ ln, ((img n τ).slot i).isLive = true ∧ i ∉ tk ∧ i ∉ wr.map (·.1)) ∧
          (ln = [] ∨ ((∀ z ∈ ((outL _ y).take E.s.rs.length).map resR, ∀ p ∈ z.cs, NoRo p) ∧ ∀ z ∈ wArgs (argsL (inL P E.s.ms x) ((outL _ y).drop E.s.rs.length)), ∀ p ∈ z.2, NoRo p)) ∧ (∀ z ∈ (thawRs b (((outL _ y).take E.s.rs.length).map resR)).2, (img n τ).slot z.1 = .fresh) ∧
          ∃ te, ({ v := resRV (thawRs b (((outL _ y).take E.s.rs.length).map resR)).1, wh := wr ++ (deads tk ++ (thawRs b (((outL _ y).take E.s.rs.length).map resR)).2), rd := ln ++ (tk ++ wr.map (·.1)) } : Eff) = te.img ∧ OkE P τ te ∧ K te = some r) hI hv hx hws
        refine ⟨_, _, hok, hprep ?_⟩
        have hwi : ((winWr τ a.wi ((outL _ y).drop E.s.rs.length)).map wsl).map (·.1) = fsts a.wi := by
          rw [List.map_map, ← winWr_ids hwok]; rfl
        rw [thawTs_ok τ.g]
        refine ⟨nodupB_ok d1, by rw [hwi]; exact nodupB_ok d2, by rw [hwi]; exact disjB_ok d3, fun i hi => ⟨?_, disjB_ok d4 i hi, by rw [hwi]; exact disjB_ok d5 i hi⟩, ?_, ?_, _, ?_, ?_, h⟩
        · rw [img_slot]; exact liveB_slot (allLive_ok d6 i hi)
        rw [Bool.or_eq_true] at hown
        refine hown.elim (fun k => .inl (isNil_ok k)) fun hown => ?_
        have hown := ownTs_ok hown
        have hot : ∀ w ∈ outL _ y, w.1.own = true := fun w hw => hown _ (by rw [← outL_ty _ y]; exact List.mem_map_of_mem hw)
        refine .inr ⟨?_, ?_⟩
        · intro z hz p hp
          obtain ⟨w, hw, rfl⟩ := List.mem_map.1 hz
          rw [resR, mkR1_cs _ _ (enc_len _ _)] at hp
          exact enc_no _ (hot w (List.mem_of_mem_take hw)) _ p hp
        · have key : ∀ (l : List (SM P)) (wl : List SD), (∀ w ∈ wl, w.1.own = true) → ∀ z ∈ wArgs (argsL l wl), ∀ p ∈ z.2, NoRo p := by
            intro l
            induction l with
            | nil => intro wl ho z hz; simp [argsL, wArgs] at hz
            | cons y l ih =>
              intro wl ho z hz
              obtain ⟨m, x⟩ := y
              cases m with
              | v t => exact ih wl ho z hz
              | o t => exact ih wl ho z hz
              | rp t => exact ih wl ho z hz
              | f a r => exact ih wl ho z hz
              | w t =>
                simp only [argsL, wArgs, List.mem_cons] at hz
                rcases hz with rfl | hz
                · intro p hp
                  cases wl with
                  | nil => simp at hp
                  | cons w wl => exact enc_no _ (ho w (by simp)) _ p hp
                · exact ih _ (fun w hw => ho w (List.mem_of_mem_tail hw)) z hz
          exact key _ _ fun w hw => hot w (List.mem_of_mem_drop hw)
        · intro z hz
          obtain ⟨e, he, rfl⟩ := List.mem_map.1 hz
          have := (thawTs_blk he).1
          exact img_fresh _ (by simp only [wsl]; omega)
        · simp only [TE.img, resTV_rv, hwi]
          simp only [List.map_append, tdeads_wsl, ← tdeads_wsl]
          rfl
        · have hnd : ((winWr τ a.wi ((outL _ y).drop E.s.rs.length) ++ (tdeads a.tk ++ (thawTs τ.g b ((outL _ y).take E.s.rs.length)).2)).map (·.1)).Nodup := by
            simp only [List.map_append, winWr_ids hwok, tdeads_ids, thawTs_ids]
            refine List.nodup_append.2 ⟨nodupB_ok d2, List.nodup_append.2 ⟨nodupB_ok d1, List.nodup_range', fun i hi j hj e => ?_⟩, fun i hi j hj e => ?_⟩
            · subst e
              have := liveB_lt (allLive_ok d7 i hi)
              rw [List.mem_range'_1] at hj; omega
            · subst e
              rcases List.mem_append.1 hj with hj | hj
              · exact disjB_ok d3 i hj hi
              · have := liveB_lt (allLive_ok d8 i hi)
                rw [List.mem_range'_1] at hj; omega
          refine OkE.wr hI (Nat.le_succ _) (fun e he => ?_) (fun le e he => ?_) (fun le c hc => ?_)
          · rcases List.mem_append.1 he with he | he
            · obtain ⟨j, w, c, cs, e1, _⟩ := winWr_mem hwok he
              rw [e1]
              exact ⟨fun v m _ e => by rw [setRow_vlen] at e; exact e, fun v m q _ e => by rw [setRow_hinf] at e; exact e⟩
            · rcases List.mem_append.1 he with he | he
              · rw [tdeads_mem he]; exact ⟨fun v m _ e => (by cases e), fun v m q _ e => (by cases e)⟩
              · obtain ⟨_, ⟨t, l, e1⟩ | ⟨k, e1⟩⟩ := thawTs_blk he
                · rw [e1]; exact ⟨fun v m hv e => by simp [vlen] at e; omega, fun v m q hv e => by simp [hinf] at e⟩
                · rw [e1]; exact ⟨fun v m hv e => by simp [vlen] at e; omega, fun v m q hv e => by simp [hinf] at e⟩
          · rcases List.mem_append.1 he with he | he
            · obtain ⟨j, w, c, cs, e1, k1, k2, k3⟩ := winWr_mem hwok he
              rw [e1]
              have hbk := le.bok (hI.blks e.1)
              have hcl : ((cells w.1 w.2).map TC.c).length = w.1.sz := by simp [cells_len]
              unfold rowAt at k2
              split at k2
              · split at k2
                · rename_i w' cs' hB
                  simp only [Option.some.injEq, Prod.mk.injEq] at k2; obtain ⟨rfl, rfl, rfl⟩ := k2
                  rw [hB] at hbk ⊢
                  intro c hc
                  rcases mem_splice hc with hc | hc
                  · exact hbk c hc
                  · obtain ⟨z, _, rfl⟩ := List.mem_map.1 hc; trivial
                · cases k2
              · split at k2
                · rename_i hB
                  split at k2
                  · simp only [Option.some.injEq, Prod.mk.injEq] at k2; obtain ⟨rfl, rfl, rfl⟩ := k2
                    rw [hB] at hbk ⊢
                    obtain ⟨q1, q2, q3, q4, q5, q6⟩ := hbk
                    refine ⟨q1, q2, fun c hc => ?_, by rw [splice_len (by omega)]; exact q4, q5, by simp⟩
                    rcases mem_splice hc with hc | hc
                    · exact q3 c hc
                    · obtain ⟨z, _, rfl⟩ := List.mem_map.1 hc; trivial
                  · cases k2
                · cases k2
              · cases k2
            · rcases List.mem_append.1 he with he | he
              · rw [tdeads_mem he]; trivial
              · obtain ⟨_, ⟨t, l, e1⟩ | ⟨k, e1⟩⟩ := thawTs_blk he
                · rw [e1]; exact Nat.lt_succ_self _
                · rw [e1]; exact Nat.lt_succ_self _
          · obtain ⟨z, hz, hc⟩ := resTV_cs hc
            rcases thawTs_cell hz hc with rfl | ⟨x, rfl⟩ | ⟨id, tb, m, rfl, k2, k3⟩
            · trivial
            · trivial
            · refine ⟨Nat.lt_succ_self _, fun m' e => ?_⟩
              rw [setTs_get (x := tb) hnd (by simp [k2])] at e
              exact k3 _ _ e
      · rename_i hbox
        split at h
        · rename_i hc
          simp only [Bool.and_eq_true] at hc
          obtain ⟨⟨⟨c1, c2⟩, c3⟩, c4⟩ := hc
          refine .inr ⟨hbox, ?_⟩
          simp only [ConE, hbox] at hok
          have hnil : ∀ {α : Type} {l : List α}, isNil l = true → l = [] := fun {α l} h => by cases l <;> first | rfl | cases h
          have e1 := hnil c1
          have e2 := hnil c2
          have e3 := hnil c3
          have hwt : ∀ ms : List PM, allVm ms = true → winT ms = [] := by
            intro ms
            induction ms with
            | nil => intro _; rfl
            | cons m ms ih => intro h; cases m <;> first | exact ih h | cases h
          obtain ⟨_, hprep⟩ := bindA_ok (n := n) (wl := []) (Q := fun tk ln wr => tk = [] ∧ ln = [] ∧ wr = [] ∧ (img n τ).slot b = .fresh ∧ (∀ p ∈ (outL _ y).flatMap (fun w : SD => enc w.1 w.2), NoRef p) ∧
            ∃ te, ({ v := .r (.one (.ptr b 1 0 0)), wh := [(b, .live ⟨1, ((outL _ y).flatMap (fun w : SD => enc w.1 w.2)).length, [], [(outL _ y).flatMap (fun w : SD => enc w.1 w.2)]⟩)] } : Eff) = te.img ∧ OkE P τ te ∧ K te = some r) hI hv hx (by rw [hwt _ c4]; rfl)
          refine ⟨_, _, hok, allVm_ok c4, hprep ⟨e2, e1, by rw [e3]; rfl, img_fresh b hb, fun p hp => ?_, _, ?_, newOk (c := .vp b 0) hI (Nat.le_refl _) (fun _ _ _ => var_vlen) (fun _ _ _ _ => var_hinf) (fun le c hc => ?_) trivial, h⟩⟩
          · obtain ⟨w, _, hp⟩ := List.mem_flatMap.1 hp
            exact enc_nr _ _ p hp
          · have : (((outL _ y).flatMap fun w => cells w.1 w.2).map TC.c).map TC.pv = (outL _ y).flatMap (fun w : SD => enc w.1 w.2) := by
              rw [List.map_map, List.map_flatMap]
              congr 1; funext w
              rw [← cells_pv]; rfl
            simp only [TE.img, TV.rv, TR.r1, TC.pv, List.map_cons, List.map_nil, TB.slot, this]
            rw [← this]; simp
          · obtain ⟨z, _, rfl⟩ := List.mem_map.1 hc; trivial
        · cases h
    · cases h
  · cases h
end
section
variable {P : Program} {σ : St} {b : Nat}
theorem setParts_mono {Q Q' : List PV → Prop} (hk : ∀ l, Q l → Q' l) : ∀ {ps : List (Nat × Nat × Ix)} {zs : List PV}, setParts zs σ ps Q → setParts zs σ ps Q'
  | [], zs, h => hk _ h
  | (off, n, x) :: r, zs, h => by
    obtain ⟨c, h1, h2, h3, h⟩ := h
    exact ⟨c, h1, h2, h3, setParts_mono hk h⟩
theorem setElems_mono {k : Nat} {Q Q' : List (List PV) → Prop} (hk : ∀ l, Q l → Q' l) : ∀ {ps : List (Nat × Ix)} {l : List (List PV)}, setElems k l σ ps Q → setElems k l σ ps Q'
  | [], zs, h => hk _ h
  | (i, x) :: r, zs, h => by
    obtain ⟨c, h1, h2, h3, h⟩ := h
    exact ⟨c, h1, h2, h3, setElems_mono hk h⟩
theorem eqCells_mn : ∀ {ks : List (Option IntKind)} {l m : List PV} {Q Q' : Bool → Prop}, (∀ t, Q t → Q' t) → eqCells ks l m Q → eqCells ks l m Q'
  | ks, l, m, Q, Q', hk, h => by
    unfold eqCells at h ⊢
    split at h
    · exact hk _ h
    · exact ⟨h.1, h.2.1, eqCells_mn (fun t ht => hk _ ht) h.2.2⟩
    · exact eqCells_mn (fun t ht => hk _ ht) h
    · exact h.elim
theorem binI_mono {op : BinOp} {k : IntKind} {x y : Int} {Q Q' : PV → Prop} (hk : ∀ p, Q p → Q' p) (h : binI op k x y Q) : binI op k x y Q' := by
  unfold binI at h ⊢
  split at h <;> first | exact hk _ h | exact ⟨h.1, hk _ h.2⟩ | exact h.elim
theorem blk_mono {id full : Nat} {Q Q' : Blk → Prop} (hk : ∀ B, Q B → Q' B) (h : σ.blk id full Q) : σ.blk id full Q' := by
  unfold St.blk at h ⊢
  split at h
  · exact ⟨h.1, hk _ h.2⟩
  · exact h.elim
theorem bdP_mono {o : Option Ix} {d : Nat} {Q Q' : Nat → Prop} (hk : ∀ m, Q m → Q' m) (h : bdP σ o d Q) : bdP σ o d Q' := by
  unfold bdP at h ⊢
  split at h
  · exact hk _ h
  · split at h
    · exact ⟨h.1, hk _ h.2⟩
    · exact h.elim
theorem srcP_mono {k : Nat} {y : PV} {Q Q' : List (List PV) → List Nat → Prop} (hk : ∀ l r, Q l r → Q' l r) (h : srcP σ k y Q) : srcP σ k y Q' := by
  unfold srcP at h ⊢
  split at h
  · exact blk_mono (fun B hB => ⟨hB.1, hB.2.1, hk _ _ hB.2.2⟩) h
  · exact ⟨h.1, h.2.1, hk _ _ h.2.2⟩
  · exact h.elim
theorem vwP_mono {p x : PV} {Q Q' : List Nat → Prop} (hk : ∀ l, Q l → Q' l) (h : vwP σ p x Q) : vwP σ p x Q' := by
  unfold vwP at h ⊢
  split at h
  · split at h
    · obtain ⟨h1, c, h2, h3⟩ := h
      refine ⟨h1, c, h2, ?_⟩
      split at h3
      · exact ⟨h3.1, hk _ h3.2⟩
      · exact h3.elim
    · exact h.elim
  · exact ⟨h.1, hk _ h.2⟩
  · exact h.elim
  · split at h
    · exact ⟨h.1, hk _ h.2⟩
    · exact h.elim
theorem vwL_mono : ∀ {ps xs : List PV} {Q Q' : List Nat → Prop}, (∀ l, Q l → Q' l) → vwL σ ps xs Q → vwL σ ps xs Q'
  | [], [], Q, Q', hk, h => hk _ h
  | p :: ps, x :: xs, Q, Q', hk, h => vwP_mono (fun l hl => vwL_mono (fun l' hl' => hk _ hl') hl) h
  | [], _ :: _, Q, Q', hk, h => h.elim
  | _ :: _, [], Q, Q', hk, h => h.elim
theorem vwR_mono {r x : R1} {Q Q' : List Nat → Prop} (hk : ∀ l, Q l → Q' l) (h : vwR σ r x Q) : vwR σ r x Q' := by
  unfold vwR at h ⊢
  split at h
  · exact vwP_mono hk h
  · exact vwL_mono hk h
  · exact h.elim
theorem prep_mono : ∀ {is : List RV} {as : List Arg} {Q Q' : List Nat → List Nat → List (Nat × Slot) → Prop}, (∀ a b c, Q a b c → Q' a b c) → callPrep σ is as Q → callPrep σ is as Q'
  | [], [], Q, Q', hk, h => hk _ _ _ h
  | ix :: is, .v x :: as, Q, Q', hk, h => by
    simp only [callPrep] at h ⊢
    obtain ⟨h1, h⟩ := h
    refine ⟨h1, ?_⟩
    split at h
    · obtain ⟨x', hn', him, h⟩ := h
      exact ⟨x', hn', him, vwR_mono (fun l hl => prep_mono (fun a b c hq => hk _ _ _ hq) hl) h⟩
    · exact h.elim
  | ix :: is, .o x :: as, Q, Q', hk, h => by
    simp only [callPrep] at h ⊢
    obtain ⟨h1, h⟩ := h
    refine ⟨h1, ?_⟩
    split at h
    · obtain ⟨i, l, hm, h⟩ := h
      exact ⟨i, l, hm, prep_mono (fun a b c hq => hk _ _ _ hq) h⟩
    · exact h.elim
  | ix :: is, .w c c' :: as, Q, Q', hk, h => by
    simp only [callPrep] at h ⊢
    obtain ⟨h1, h⟩ := h
    refine ⟨h1, ?_⟩
    split at h
    · split at h
      · obtain ⟨h2, ce, h3, h4, h5, h6, h⟩ := h
        exact ⟨h2, ce, h3, h4, h5, h6, prep_mono (fun a b c hq => hk _ _ _ hq) h⟩
      · exact h.elim
    · exact h.elim
  | [], _ :: _, Q, Q', hk, h => h.elim
  | _ :: _, [], Q, Q', hk, h => by simp [callPrep] at h
theorem callK_mono {f : FuncId} {is : List RV} {Q Q' : Eff → Prop} (hk : ∀ E, Q E → Q' E) (h : callK P σ b f is Q) : callK P σ b f is Q' := by
  obtain ⟨args, res, hc, hp⟩ := h
  exact ⟨args, res, hc, prep_mono (fun a b c ⟨k1, k2, k3, k4, k5, k6, k7⟩ => ⟨k1, k2, k3, k4, k5, k6, hk _ k7⟩) hp⟩
theorem boxK_mono {f : FuncId} {is : List RV} {Q Q' : Eff → Prop} (hk : ∀ E, Q E → Q' E) (h : boxK P σ b f is Q) : boxK P σ b f is Q' := by
  obtain ⟨args, c, hc, ha, hp⟩ := h
  exact ⟨args, c, hc, ha, prep_mono (fun a b c ⟨k1, k2, k3, k4, k5, k6⟩ => ⟨k1, k2, k3, k4, k5, hk _ k6⟩) hp⟩
theorem effK_mono {k : AK} {Q Q' : Eff → Prop} (hk : ∀ E, Q E → Q' E) (h : effK σ b k Q) : effK σ b k Q' := by
  cases k with
  | slc k x lo hi =>
    rw [effK_slc] at h ⊢
    split at h
    · exact blk_mono (fun B hB => ⟨hB.1, bdP_mono (fun m hm => bdP_mono (fun m' hm' => ⟨hm'.1, hm'.2.1, hk _ hm'.2.2⟩) hm) hB.2⟩) h
    · exact ⟨h.1, h.2.1, bdP_mono (fun m hm => bdP_mono (fun m' hm' => ⟨hm'.1, hm'.2.1, hk _ hm'.2.2⟩) hm) h.2.2⟩
    · exact h.elim
  | app k bytes x y =>
    rw [effK_app] at h ⊢
    split at h
    · exact ⟨h.1, blk_mono (fun B hB => ⟨hB.1, srcP_mono (fun l r hl => ⟨hl.1, hl.2.1, hk _ hl.2.2⟩) hB.2⟩) h.2⟩
    · exact ⟨h.1, srcP_mono (fun l r hl => ⟨hl.1, hl.2.1, hk _ hl.2.2⟩) h.2⟩
    · exact h.elim
  | mv x => exact hk _ h
  | nils k => exact ⟨h.1, hk _ h.2⟩
  | pick c x y =>
    simp only [effK] at h ⊢
    split at h
    · split at h
      · rename_i e; rw [if_pos e]; exact hk _ h
      · rename_i e; rw [if_neg e]; exact hk _ h
    · exact h.elim
  | box x =>
    simp only [effK] at h ⊢
    refine ⟨h.1, ?_⟩
    have h := h.2
    split at h
    · exact hk _ h
    · exact h.elim
  | alloc zs => exact ⟨h.1, hk _ h.2⟩
  | build zs ps => exact setParts_mono (fun l hl => hk _ hl) h
  | bsl k n zs ps => exact ⟨h.1, setElems_mono (fun l hl => hk _ hl) h.2⟩
  | mks k bytes zs x =>
    simp only [effK] at h ⊢
    refine ⟨h.1, ?_⟩
    have h := h.2
    split at h
    · exact ⟨h.1, h.2.1, h.2.2.1, hk _ h.2.2.2⟩
    · exact h.elim
  | ld1 x =>
    simp only [effK] at h ⊢
    split at h
    · refine blk_mono (fun B hB => ?_) h
      obtain ⟨c, p, h1, h2, h3⟩ := hB
      refine ⟨c, p, h1, h2, ?_⟩
      split at h3
      · exact ⟨h3.1, hk _ h3.2⟩
      · exact hk _ h3
    · obtain ⟨p, h1, h2⟩ := h; exact ⟨p, h1, hk _ h2⟩
    · exact h.elim
  | ld n x =>
    simp only [effK] at h ⊢
    split at h
    · refine blk_mono (fun B hB => ?_) h
      obtain ⟨c, h1, h2, h3⟩ := hB
      refine ⟨c, h1, h2, ?_⟩
      split at h3
      · exact hk _ h3
      · exact ⟨h3.1, hk _ h3.2⟩
    · exact ⟨h.1, hk _ h.2⟩
    · exact h.elim
  | st n x y =>
    simp only [effK] at h ⊢
    split at h
    · refine blk_mono (fun B hB => ?_) h
      obtain ⟨c, ys, h1, h2, h3, h4, h5⟩ := hB
      exact ⟨c, ys, h1, h2, h3, h4, hk _ h5⟩
    · exact h.elim
  | nchk x =>
    simp only [effK] at h ⊢
    split at h
    · exact hk _ h
    · exact hk _ h
    · exact h.elim
  | bin bo op x y =>
    simp only [effK] at h ⊢
    split at h
    · exact ⟨h.1, binI_mono (fun p hp => hk _ hp) h.2⟩
    · refine ⟨h.1, ?_⟩
      have h := h.2
      split at h
      · exact hk _ h
      · exact hk _ h
      · exact h.elim
    · exact h.elim
  | eqs ng ks x y =>
    simp only [effK] at h ⊢
    split at h
    · exact eqCells_mn (fun t ht => hk _ ht) h
    · exact h.elim
  | not x =>
    simp only [effK] at h ⊢
    split at h
    · exact hk _ h
    · exact h.elim
  | neg x =>
    simp only [effK] at h ⊢
    split at h
    · exact hk _ h
    · exact h.elim
  | conv k x =>
    simp only [effK] at h ⊢
    split at h
    · exact hk _ h
    · exact h.elim
  | fa off x =>
    simp only [effK] at h ⊢
    split at h
    · exact hk _ h
    · exact hk _ h
    · exact h.elim
  | ia k x y =>
    simp only [effK] at h ⊢
    split at h
    · exact blk_mono (fun B hB => ⟨hB.1, hB.2.1, hB.2.2.1, hk _ hB.2.2.2⟩) h
    · obtain ⟨h1, h2, h3, c, h4, h5⟩ := h; exact ⟨h1, h2, h3, c, h4, hk _ h5⟩
    · exact h.elim
  | len x =>
    simp only [effK] at h ⊢
    split at h
    · exact hk _ h
    · exact hk _ h
    · exact h.elim
  | copy x y =>
    simp only [effK] at h ⊢
    split at h
    · refine blk_mono (fun B hB => ⟨hB.1, ?_⟩) h
      have hB := hB.2
      split at hB
      · exact blk_mono (fun B' hB' => ⟨hB'.1, hB'.2.1, hB'.2.2.1, hk _ hB'.2.2.2⟩) hB
      · exact ⟨hB.1, hB.2.1, hB.2.2.1, hk _ hB.2.2.2⟩
      · exact hB.elim
    · exact h.elim
  | mn x y =>
    simp only [effK] at h ⊢
    split at h
    · exact hk _ h
    · exact h.elim
  | mx x y =>
    simp only [effK] at h ⊢
    split at h
    · exact hk _ h
    · exact h.elim
  | ext i x =>
    simp only [effK] at h ⊢
    split at h
    · obtain ⟨y, h1, h2⟩ := h; exact ⟨y, h1, hk _ h2⟩
    · exact h.elim
  | mkf f l => exact ⟨h.1, hk _ h.2⟩
  | call f l => exact h.elim
  | clo x l => exact h.elim
theorem opK_mono {k : AK} {Q Q' : Eff → Prop} (hk : ∀ E, Q E → Q' E) (h : opK P σ b k Q) : opK P σ b k Q' := by
  cases k with
  | call f l => exact h.imp (callK_mono hk) (boxK_mono hk)
  | clo x l =>
    simp only [opK] at h ⊢
    split at h
    · exact callK_mono hk h
    · exact h.elim
  | bsl k n zs ps =>
    rcases h with h | ⟨h0, h⟩
    · exact .inl (effK_mono hk h)
    · refine .inr ⟨h0, effK_mono (fun E hE => ?_) h⟩
      obtain ⟨kids, c, h1, h2, h3⟩ := hE
      exact ⟨kids, c, h1, h2, hk _ h3⟩
  | _ => simp only [opK] at h ⊢; exact effK_mono hk h
theorem stepK_mono {x : AOp} {Q Q' : St → Prop} (hk : ∀ E, Q E → Q' E) (h : stepK P σ b x Q) : stepK P σ b x Q' := by
  unfold stepK at h ⊢
  split at h
  · exact opK_mono (fun E hE => hk _ hE) h
  · split at h
    · exact ⟨fun e => opK_mono (fun E hE => hk _ hE) (h.1 e), fun e => hk _ (h.2 e)⟩
    · exact hk _ h
    · exact h.elim
theorem stepTK_mono {x : AOp} {Q Q' : Tr → Prop} (hk : ∀ E, Q E → Q' E) (h : stepTK P σ b x Q) : stepTK P σ b x Q' := by
  unfold stepTK at h ⊢
  split at h
  · exact opK_mono (fun E hE => hk _ hE) h
  · split at h
    · exact ⟨fun e => opK_mono (fun E hE => hk _ hE) (h.1 e), fun e => hk _ (h.2 e)⟩
    · exact hk _ h
    · exact h.elim
theorem dregK_mono : ∀ {xs : List AOp} {σ : St} {Q Q' : List Tr → Prop}, (∀ t, Q t → Q' t) → dregK P xs σ Q → dregK P xs σ Q'
  | [], σ, Q, Q', hk, h => hk _ h
  | x :: xs, σ, Q, Q', hk, h => stepTK_mono (fun t ht => dregK_mono (fun ts hts => hk _ hts) ht) h
end
def evOs (τ : TSt) : List Ix → Option (List TV)
  | [] => some []
  | x :: r => match τ.evO x, evOs τ r with
    | some v, some vs => some (v :: vs)
    | _, _ => none
def capTV : List SC × Option Nat → TV
  | (l, some j) => .r (.one (.rp l j))
  | (l, none) => match l with
    | x :: _ => .r (.one (.c x))
    | [] => .r (.one (.c .np))
def lkK : List (Nat × Bool) → Nat → Option Bool
  | [], _ => none
  | (d, v) :: r, t => match Nat.beq t d with
    | true => some v
    | false => lkK r t
def rmK (d : Nat) : List (Nat × Bool) → List (Nat × Bool)
  | [] => []
  | (e, v) :: r => match Nat.beq e d with
    | true => rmK d r
    | false => (e, v) :: rmK d r
def delK : Option Nat → List (Nat × Bool) → List (Nat × Bool)
  | some d, l => rmK d l
  | none, l => l
def pickK (kn : List (Nat × Bool)) (x y z : Ix) : AK := match x with
  | .t d => match lkK kn d with
    | some true => .mv y
    | some false => .mv z
    | none => .pick (.t d) y z
  | x => .pick x y z
def opT {P : Program} (τ : TSt) (kn : List (Nat × Bool)) (tab : List (AEnt P)) (b : Nat) (et : Option Ty) (d : Option Nat) (k : AK) {R : Type} (K : TE → Option R) : Option R :=
  match k with
  | .call f l => match evOs τ l, findE tab f d with
    | some vs, some E => callT τ tab b E vs K
    | _, _ => none
  | .clo x l => match τ.ev1 x with
    | .fn f m => match evOs τ l, findE tab f d with
      | some vs, some E => match E.s.box with
        | false => callT τ tab b E (vs ++ m.map capTV) K
        | true => none
      | _, _ => none
    | .fv f m a r p => match evOs τ l with
      | some [v] => match cellsR a v with
        | some cs => match viewL τ cs with
          | some (xs, ln) => match ofV a xs, r.flat && r.own, allLive τ.h ln with
            | some x, true, true => bd (p x) fun y => match cells r y with
              | [z] => K { v := .r (.one (.c z)), rd := ln, g := τ.g }
              | _ => none
            | _, _, _ => none
          | none => none
        | none => none
      | _ => none
    | _ => none
  | .pick x y z => teff τ b et (pickK kn x y z) K
  | k => teff τ b et k K
def stepT {P : Program} (τ : TSt) (kn : List (Nat × Bool)) (tab : List (AEnt P)) (x : AOp) (et : Option Ty) {R : Type} (K : TSt → List (Nat × Bool) → List Nat → Option TE → Option R) : Option R :=
  let go (kn : List (Nat × Bool)) (rs : List Nat) : Option R := opT τ kn tab τ.h.length et x.d x.k fun te => K (τ.app x.d te) (delK x.d kn) rs (some te)
  let no (kn : List (Nat × Bool)) (d : Nat) : Option R := K ⟨putT τ.r x.d (.tup []), τ.h, τ.g⟩ (delK x.d kn) [d] none
  match x.g with
  | none => go kn (ixRegs x.k.ixs)
  | some (d, t) => match lkK kn d with
    | some v => match v, t with
      | true, true => go kn (d :: ixRegs x.k.ixs)
      | false, false => go kn (d :: ixRegs x.k.ixs)
      | _, _ => no kn d
    | none => match lookT τ.r d with
      | .r (.one (.c (.b v))) => match t with
        | true => cnd v (go ((d, true) :: kn) (d :: ixRegs x.k.ixs)) (no ((d, false) :: kn) d)
        | false => cnd v (no ((d, true) :: kn) d) (go ((d, false) :: kn) (d :: ixRegs x.k.ixs))
      | .tup [] => no kn d
      | _ => none
def regT {P : Program} (tab : List (AEnt P)) : List (AOp × Option Ty) → List (Nat × Bool) → TSt → {R : Type} → (TSt → Option R) → Option R
  | [], kn, τ, _, K => K τ
  | (x, et) :: r, kn, τ, _, K => stepT τ kn tab x et fun τ' kn' _ _ => regT tab r kn' τ' K
def trOf (x : AOp) (rs : List Nat) : Option TE → Tr
  | some te => ⟨x.d, te.img.v, te.img.wh, rs, te.img.rd ++ te.img.wh.map (·.1)⟩
  | none => ⟨x.d, .tup [], [], rs, []⟩
def dregT {P : Program} (tab : List (AEnt P)) : List (AOp × Option Ty) → List (Nat × Bool) → TSt → {R : Type} → (TSt → List Tr → Option R) → Option R
  | [], kn, τ, _, K => K τ []
  | (x, et) :: r, kn, τ, _, K => stepT τ kn tab x et fun τ' kn' rs te => dregT tab r kn' τ' fun τ'' ts => K τ'' (trOf x rs te :: ts)
def KnOk (kn : List (Nat × Bool)) (r : List (Nat × TV)) : Prop := ∀ d v, lkK kn d = some v → lookT r d = .r (.one (.c (.b v)))
theorem lkK_rm (d : Nat) : ∀ (l : List (Nat × Bool)) (e : Nat) (v : Bool), lkK (rmK d l) e = some v → e ≠ d ∧ lkK l e = some v
  | [], e, v, h => by cases h
  | (f, w) :: l, e, v, h => by
    simp only [rmK] at h
    split at h
    · rename_i hf
      have hf := Nat.eq_of_beq_eq_true hf
      obtain ⟨h1, h2⟩ := lkK_rm d l e v h
      refine ⟨h1, ?_⟩
      simp only [lkK]
      have : Nat.beq e f = false := by
        cases hb : Nat.beq e f with
        | false => rfl
        | true => exact (h1 ((Nat.eq_of_beq_eq_true hb).trans hf)).elim
      rw [this]; exact h2
    · rename_i hf
      simp only [lkK] at h ⊢
      split at h
      · rename_i he
        have he' := Nat.eq_of_beq_eq_true he
        refine ⟨fun e' => ?_, h⟩
        rw [← he', e', Nat.beq_refl] at hf; cases hf
      · obtain ⟨h1, h2⟩ := lkK_rm d l e v h
        exact ⟨h1, h2⟩
theorem KnOk.put {kn : List (Nat × Bool)} {r : List (Nat × TV)} (h : KnOk kn r) (d : Option Nat) (x : TV) : KnOk (delK d kn) (putT r d x) := by
  cases d with
  | none => exact h
  | some d =>
    intro e v he
    obtain ⟨h1, h2⟩ := lkK_rm d kn e v he
    show (match Nat.beq e d with | true => x | false => lookT r e) = _
    have : Nat.beq e d = false := by
      cases hb : Nat.beq e d with
      | false => rfl
      | true => exact (h1 (Nat.eq_of_beq_eq_true hb)).elim
    rw [this]; exact h e v h2
theorem KnOk.cons {kn : List (Nat × Bool)} {r : List (Nat × TV)} (h : KnOk kn r) {d : Nat} {v : Bool} (hd : lookT r d = .r (.one (.c (.b v)))) : KnOk ((d, v) :: kn) r := by
  intro e w he
  simp only [lkK] at he
  split at he
  · rename_i hb
    rw [Nat.eq_of_beq_eq_true hb]
    injection he with he; subst he; exact hd
  · exact h e w he
section
variable {P : Program} {τ : TSt} {n b : Nat} {kn : List (Nat × Bool)} {tab : List (AEnt P)} {R : Type} {K : TE → Option R} {r : R}
theorem evOs_ok (hI : Inv P τ) : ∀ {l : List Ix} {vs : List TV}, evOs τ l = some vs → l.map (img n τ).ev = vs.map TV.rv ∧ ∀ v ∈ vs, ∀ c ∈ v.cs, cok P τ.h τ.g c
  | [], vs, h => by injection h with h; subst h; simp
  | x :: l, vs, h => by
    simp only [evOs] at h
    split at h
    · rename_i v vs' h1 h2
      injection h with h; subst h
      obtain ⟨e1, k1⟩ := evO_ok (n := n) hI h1
      obtain ⟨e2, k2⟩ := evOs_ok hI h2
      refine ⟨by simp [e1, e2], fun v' hv' => ?_⟩
      rcases List.mem_cons.1 hv' with rfl | hv'
      · exact k1
      · exact k2 v' hv'
    · cases h
theorem capTV_rv (z : List SC × Option Nat) : (capTV z).rv = .r (.one (capPV z)) := by
  obtain ⟨l, j⟩ := z
  cases j with
  | some j => rfl
  | none => cases l <;> rfl
theorem capTV_cok {h : List TB} {g : Nat} (z : List SC × Option Nat) : ∀ c ∈ (capTV z).cs, cok P h g c := by
  intro c hc
  obtain ⟨l, j⟩ := z
  cases j with
  | some j =>
    have : c = .rp l j := by simpa [capTV, TV.cs, TR.cs] using hc
    subst this; trivial
  | none =>
    cases l with
    | nil =>
      have : c = .c .np := by simpa [capTV, TV.cs, TR.cs] using hc
      subst this; trivial
    | cons x l =>
      have : c = .c x := by simpa [capTV, TV.cs, TR.cs] using hc
      subst this; trivial
theorem vwP_frz {σ : St} {p : PV} (h : p.frz = true) {K : List Nat → Prop} (hk : K []) : vwP σ p p K := by
  cases p with
  | vs o k l => cases o with
    | false => exact ⟨rfl, hk⟩
    | true => cases h
  | ref => cases h
  | ptr => cases h
  | tok => cases h
  | un => cases h
  | _ => exact ⟨rfl, hk⟩
theorem prep_frz {σ : St} : ∀ {m : List PV}, (∀ p ∈ m, NoRef p ∧ p.frz = true) → ∀ {K : List Nat → List Nat → List (Nat × Slot) → Prop}, K [] [] [] → callPrep σ (m.map fun p => .r (.one p)) (m.map fun p => .v (.one p)) K
  | [], _, K, h => h
  | p :: m, hm, K, h => ⟨fun q hq => by
      have : q = p := by simpa [R1.cs] using hq
      subst this; exact (hm q (by simp)).1, .one p, fun q hq => by
      have : q = p := by simpa [R1.cs] using hq
      subst this; exact (hm q (by simp)).1, ImpR.refl _, vwP_frz (K := fun l => callPrep σ (m.map fun p => RV.r (.one p)) (m.map fun p => Arg.v (.one p)) fun tk ln wr => K tk (l ++ ln) wr) (hm p (by simp)).2 (prep_frz (fun q hq => hm q (by simp [hq])) h)⟩
theorem cells_flat : ∀ (t : Ty), t.flat = true → ∀ (v : Den t), ∀ x ∈ cells t v, ∀ u l, x ≠ .sl true u l
  | .int _, _, _, x, h => by simp only [cells, List.mem_singleton] at h; subst h; simp
  | .bool, _, _, x, h => by simp only [cells, List.mem_singleton] at h; subst h; simp
  | .str, _, _, x, h => by simp only [cells, List.mem_singleton] at h; subst h; simp
  | .vw _, _, _, x, h => by simp only [cells, List.mem_singleton] at h; subst h; simp
  | .pr a b, hf, v, x, h => by
    simp only [Ty.flat, Bool.and_eq_true] at hf
    simp only [cells, List.mem_append] at h
    exact h.elim (cells_flat a hf.1 v.1 x) (cells_flat b hf.2 v.2 x)
theorem opT_ok (hI : Inv P τ) (hb : τ.h.length ≤ b) (hkn : KnOk kn τ.r) {et : Option Ty} {d : Option Nat} {k : AK} (h : opT τ kn tab b et d k K = some r) : opK P (img n τ) b k fun E => ∃ te, E = te.img ∧ OkE P τ te ∧ K te = some r := by
  cases k with
  | call f l =>
    simp only [opT] at h
    split at h
    · rename_i vs E h1 h2
      obtain ⟨e1, k1⟩ := evOs_ok (n := n) hI h1
      have e2 := findE_ok h2
      subst e2
      simp only [opK, e1]
      rcases callT_ok (n := n) hI hb k1 h with ⟨_, k⟩ | ⟨_, k⟩
      · exact .inl k
      · exact .inr k
    · cases h
  | clo x l =>
    simp only [opT] at h
    split at h
    · rename_i f m hx
      obtain ⟨e0, _⟩ := ev1_ok (n := n) hI hx (by simp)
      split at h
      · rename_i vs E h1 h2
        split at h
        · rename_i hbox
          obtain ⟨e1, k1⟩ := evOs_ok (n := n) hI h1
          have e2 := findE_ok h2
          subst e2
          simp only [opK, e0, TC.pv, e1]
          have e3 : (vs ++ m.map capTV).map TV.rv = vs.map TV.rv ++ (m.map capPV).map fun p => RV.r (.one p) := by
            simp [capTV_rv, Function.comp_def]
          have hvs : ∀ v ∈ vs ++ m.map capTV, ∀ c ∈ v.cs, cok P τ.h τ.g c := by
            intro v hv
            rcases List.mem_append.1 hv with hv | hv
            · exact k1 v hv
            · obtain ⟨z, _, rfl⟩ := List.mem_map.1 hv
              exact capTV_cok z
          rcases callT_ok (n := n) hI hb hvs h with ⟨_, k⟩ | ⟨k0, _⟩
          · rw [e3] at k; exact k
          · rw [hbox] at k0; cases k0
        · cases h
      · cases h
    · rename_i f m a r' p hx
      obtain ⟨e0, k0⟩ := ev1_ok (n := n) hI hx (by simp)
      split at h
      · rename_i v h1
        obtain ⟨e1, k1⟩ := evOs_ok (n := n) hI h1
        split at h
        · rename_i cs hcs
          split at h
          · rename_i xs ln hxs
            split at h
            · rename_i x hx hfl hlv
              rw [Bool.and_eq_true] at hfl
              obtain ⟨hfl, how⟩ := hfl
              obtain ⟨y, hy, h⟩ := bd_some h
              split at h
              · rename_i z hz
                obtain ⟨hm, hcon⟩ := k0
                have hc := hcon x y hy
                simp only [opK, e0, TC.pv, e1, List.map_cons, List.map_nil, List.singleton_append]
                have hag : r'.agg = false := by
                  have := cells_len r' y
                  rw [hz] at this
                  exact agg_of_one this.symm
                have hen : enc r' y = [z.pv] := by rw [← cells_pv, hz]; rfl
                refine ⟨_, _, hc, ?_⟩
                have hr1 : mkR1 r' (enc r' y) = .one z.pv := by rw [mkR1_one hag, hen]; rfl
                have hth : thawRs b [mkR1 r' (enc r' y)] = ([.one z.pv], []) := by
                  have hzz := cells_flat r' hfl y z (by rw [hz]; simp)
                  rw [hr1]
                  have : thaw b [z.pv] = ([z.pv], []) := by
                    have := tthaw_ok 0 b [.c z]
                    simp only [List.map_cons, List.map_nil, TC.pv] at this
                    rw [this]
                    cases z with
                    | sl o u l => cases o with
                      | true => exact (hzz _ _ rfl).elim
                      | false => rfl
                    | nl o k =>
                      exfalso
                      have h9 : SC.nl o k ∈ cells r' y := by rw [hz]; simp
                      have h8 : ∀ (t : Ty) (v : Den t), SC.nl o k ∉ cells t v := by
                        intro t
                        induction t with
                        | pr a b ih1 ih2 => intro v hm; simp only [cells, List.mem_append] at hm; exact hm.elim (ih1 _) (ih2 _)
                        | _ => intro v hm; simp [cells] at hm
                      exact h8 _ _ h9
                    | _ => rfl
                  simp only [thawRs, thawR, R1.cs, this]; rfl
                refine bindV_ok (n := n) hI (k1 v (by simp)) hcs hxs hx (prep_frz hm ⟨List.nodup_nil, List.nodup_nil, by simp, fun i hi => ⟨?_, by simp, by simp⟩, .inr ⟨?_, ?_⟩, ?_, ?_⟩)
                · rw [List.append_nil] at hi
                  rw [img_slot]; exact liveB_slot (allLive_ok hlv i hi)
                · intro q hq p hp
                  have : q = mkR1 r' (enc r' y) := by simpa using hq
                  subst this
                  rw [mkR1_cs _ _ (enc_len _ _)] at hp
                  exact enc_no _ how _ p hp
                · have : ∀ l : List PV, wArgs (l.map fun q => Arg.v (.one q)) = [] := by intro l; induction l with | nil => rfl | cons a l ih => exact ih
                  intro q hq
                  have hq : q ∈ wArgs (m.map fun q => Arg.v (.one q)) := hq
                  rw [this] at hq; cases hq
                · rw [hth]; simp
                · rw [hth]
                  refine fin1 hI (c := .c z) ?_ trivial h
                  simp [resRV, deads, TC.pv]
              · cases h
            · cases h
          · cases h
        · cases h
      · cases h
    · cases h
  | pick x y z =>
    simp only [opT, pickK] at h
    split at h
    · rename_i d
      split at h
      · rename_i hk
        have e0 : (img n τ).ev1 (.t d) = .b true := by
          show (match (img n τ).reg d with | .r (.one p) => p | _ => .un) = _
          rw [img_reg, hkn d true hk]; rfl
        simp only [opK, effK, e0, if_true]
        exact teff_ok (n := n) (et := et) (k := .mv y) hI hb h
      · rename_i hk
        have e0 : (img n τ).ev1 (.t d) = .b false := by
          show (match (img n τ).reg d with | .r (.one p) => p | _ => .un) = _
          rw [img_reg, hkn d false hk]; rfl
        simp only [opK, effK, e0, Bool.false_eq_true, if_false]
        exact teff_ok (n := n) (et := et) (k := .mv z) hI hb h
      · exact teff_ok (et := et) hI hb h
    · exact teff_ok (et := et) hI hb h
  | _ => exact teff_ok (et := et) hI hb h
theorem putT_none {d : Option Nat} {v : TV} : (img n τ).putO d v.rv = img n ⟨putT τ.r d v, τ.h, τ.g⟩ := by cases d <;> rfl
theorem inv_put (hI : Inv P τ) (d : Option Nat) : Inv P ⟨putT τ.r d (.tup []), τ.h, τ.g⟩ where
  regs := fun e he c hc => by
    cases d with
    | none => exact hI.regs e he c hc
    | some t =>
      rcases List.mem_cons.1 he with rfl | he
      · simp [TV.cs] at hc
      · exact hI.regs e he c hc
  blks := hI.blks
def StepP (P : Program) (n : Nat) (τ : TSt) (x : AOp) (K : TSt → List (Nat × Bool) → List Nat → Option TE → Option R) (r : R) (t : Tr) : Prop :=
  ∃ τ' kn' rs te, t = trOf x rs te ∧ t.run (img n τ) = img n τ' ∧ Inv P τ' ∧ (∃ v, τ'.r = putT τ.r x.d v) ∧ KnOk kn' τ'.r ∧ K τ' kn' rs te = some r
theorem stepT_ok (hI : Inv P τ) (hkn : KnOk kn τ.r) {x : AOp} {et : Option Ty} {K : TSt → List (Nat × Bool) → List Nat → Option TE → Option R} (h : stepT τ kn tab x et K = some r) :
    stepTK P (img n τ) (img n τ).H.length x (StepP P n τ x K r) ∧ stepK P (img n τ) (img n τ).H.length x (fun σ' => ∃ τ', σ' = img n τ' ∧ Inv P τ' ∧ (∃ v, τ'.r = putT τ.r x.d v) ∧ ∃ kn' rs te, KnOk kn' τ'.r ∧ K τ' kn' rs te = some r) := by
  have go : ∀ {kn : List (Nat × Bool)} {rs : List Nat}, KnOk kn τ.r → (opT τ kn tab τ.h.length et x.d x.k fun te => K (τ.app x.d te) (delK x.d kn) rs (some te)) = some r →
      opK P (img n τ) (img n τ).H.length x.k (fun E => StepP P n τ x K r ⟨x.d, E.v, E.wh, rs, E.rd ++ E.wh.map (·.1)⟩) ∧ opK P (img n τ) (img n τ).H.length x.k (fun E => ∃ τ', (img n τ).app x.d E = img n τ' ∧ Inv P τ' ∧ (∃ v, τ'.r = putT τ.r x.d v) ∧ ∃ kn' rs te, KnOk kn' τ'.r ∧ K τ' kn' rs te = some r) := by
    intro kn rs hkn h
    rw [img_len]
    have := opT_ok (n := n) hI (Nat.le_refl _) hkn h
    refine ⟨opK_mono (fun E hE => ?_) this, opK_mono (fun E hE => ?_) this⟩
    · obtain ⟨te, rfl, ho, hk⟩ := hE
      refine ⟨τ.app x.d te, delK x.d kn, rs, some te, rfl, ?_, inv_app hI ho x.d, ⟨te.v, rfl⟩, hkn.put x.d te.v, hk⟩
      rw [← img_app ho x.d, app_eq]; rfl
    · obtain ⟨te, rfl, ho, hk⟩ := hE
      exact ⟨τ.app x.d te, img_app ho x.d, inv_app hI ho x.d, ⟨te.v, rfl⟩, _, _, _, hkn.put x.d te.v, hk⟩
  have no : ∀ {kn : List (Nat × Bool)} {d : Nat}, KnOk kn τ.r → K ⟨putT τ.r x.d (.tup []), τ.h, τ.g⟩ (delK x.d kn) [d] none = some r →
      StepP P n τ x K r ⟨x.d, .tup [], [], [d], []⟩ ∧ ∃ τ', (img n τ).putO x.d (.tup []) = img n τ' ∧ Inv P τ' ∧ (∃ v, τ'.r = putT τ.r x.d v) ∧ ∃ kn' rs te, KnOk kn' τ'.r ∧ K τ' kn' rs te = some r := by
    intro kn d hkn hk
    have e : (img n τ).putO x.d (.tup []) = img n ⟨putT τ.r x.d (.tup []), τ.h, τ.g⟩ := putT_none (v := .tup [])
    exact ⟨⟨_, _, [d], none, rfl, e, inv_put hI x.d, ⟨_, rfl⟩, hkn.put x.d _, hk⟩, _, e, inv_put hI x.d, ⟨_, rfl⟩, _, _, _, hkn.put x.d _, hk⟩
  simp only [stepT] at h
  unfold stepTK stepK
  split at h
  · rename_i hg
    simp only [hg]
    exact go hkn h
  · rename_i d t hg
    simp only [hg, img_reg]
    split at h
    · rename_i v hv
      have hv := hkn d v hv
      simp only [hv, TV.rv, TR.r1, TC.pv, SC.pv]
      split at h
      · exact ⟨⟨fun _ => (go hkn h).1, fun e => (e rfl).elim⟩, ⟨fun _ => (go hkn h).2, fun e => (e rfl).elim⟩⟩
      · exact ⟨⟨fun _ => (go hkn h).1, fun e => (e rfl).elim⟩, ⟨fun _ => (go hkn h).2, fun e => (e rfl).elim⟩⟩
      · rename_i h1 h2
        have hne : v ≠ t := by
          intro e
          subst e
          cases v with
          | true => exact h1 rfl rfl
          | false => exact h2 rfl rfl
        exact ⟨⟨fun e => (hne e).elim, fun _ => (no hkn h).1⟩, ⟨fun e => (hne e).elim, fun _ => (no hkn h).2⟩⟩
    · split at h
      · rename_i v hv
        simp only [hv, TV.rv, TR.r1, TC.pv, SC.pv]
        split at h
        · rcases cnd_some h with ⟨rfl, h⟩ | ⟨rfl, h⟩
          · exact ⟨⟨fun _ => (go (hkn.cons hv) h).1, fun e => (e rfl).elim⟩, ⟨fun _ => (go (hkn.cons hv) h).2, fun e => (e rfl).elim⟩⟩
          · exact ⟨⟨fun e => (by cases e), fun _ => (no (hkn.cons hv) h).1⟩, ⟨fun e => (by cases e), fun _ => (no (hkn.cons hv) h).2⟩⟩
        · rcases cnd_some h with ⟨rfl, h⟩ | ⟨rfl, h⟩
          · exact ⟨⟨fun e => (by cases e), fun _ => (no (hkn.cons hv) h).1⟩, ⟨fun e => (by cases e), fun _ => (no (hkn.cons hv) h).2⟩⟩
          · exact ⟨⟨fun _ => (go (hkn.cons hv) h).1, fun e => (e rfl).elim⟩, ⟨fun _ => (go (hkn.cons hv) h).2, fun e => (e rfl).elim⟩⟩
      · rename_i hv
        simp only [hv, TV.rv, List.map_nil]
        exact no hkn h
      · cases h
def Stable (wr : List Nat) (J : (Nat → TV) → Prop) : Prop := ∀ f d v, d ∈ wr → J f → J fun t => if t = d then v else f t
theorem lookT_put (r : List (Nat × TV)) (d : Nat) (v : TV) : lookT (putT r (some d) v) = fun t => if t = d then v else lookT r t := by
  funext t
  simp only [putT, lookT]
  by_cases h : t = d
  · subst h; simp [Nat.beq_refl]
  · have : Nat.beq t d = false := by
      cases hb : Nat.beq t d with
      | false => rfl
      | true => exact (h (Nat.eq_of_beq_eq_true hb)).elim
    simp [h, this]
theorem Stable.put {wr : List Nat} {J : (Nat → TV) → Prop} (hs : Stable wr J) {τ' : TSt} {d : Option Nat} (hd : ∀ t, d = some t → t ∈ wr) (hr : ∃ v, τ'.r = putT τ.r d v) (h : J (lookT τ.r)) : J (lookT τ'.r) := by
  obtain ⟨v, hr⟩ := hr
  rw [hr]
  cases d with
  | none => exact h
  | some t => rw [lookT_put]; exact hs _ _ _ (hd t rfl) h
def wrOps : List (AOp × Option Ty) → List Nat
  | [] => []
  | (x, _) :: r => match x.d with
    | some d => d :: wrOps r
    | none => wrOps r
def opsOf (l : List (AOp × Option Ty)) : List AOp := l.map (·.1)
theorem wrOps_mem {x : AOp} {et : Option Ty} {ops : List (AOp × Option Ty)} : (∀ t, x.d = some t → t ∈ wrOps ((x, et) :: ops)) ∧ ∀ t, t ∈ wrOps ops → t ∈ wrOps ((x, et) :: ops) := by
  constructor
  · intro t e; simp [wrOps, e]
  · intro t ht
    simp only [wrOps]
    cases x.d <;> simp [ht]
theorem Stable.sub {w w' : List Nat} {J : (Nat → TV) → Prop} (hs : Stable w' J) (h : ∀ t ∈ w, t ∈ w') : Stable w J := fun f d v hd hj => hs f d v (h d hd) hj
theorem regT_ok {J : (Nat → TV) → Prop} : ∀ {ops : List (AOp × Option Ty)} {kn : List (Nat × Bool)} {τ : TSt} {K : TSt → Option R}, Stable (wrOps ops) J → J (lookT τ.r) → Inv P τ → KnOk kn τ.r → regT tab ops kn τ K = some r → regK P (opsOf ops) (img n τ) fun σ' => ∃ τ', σ' = img n τ' ∧ Inv P τ' ∧ J (lookT τ'.r) ∧ K τ' = some r
  | [], kn, τ, K, hs, hJ, hI, hkn, h => ⟨τ, rfl, hI, hJ, h⟩
  | (x, et) :: ops, kn, τ, K, hs, hJ, hI, hkn, h => by
    have h1 := (stepT_ok (n := n) hI hkn h).2
    obtain ⟨w1, w2⟩ := wrOps_mem (x := x) (et := et) (ops := ops)
    show stepK P (img n τ) _ x fun σ' => regK P (opsOf ops) σ' _
    refine stepK_mono (fun σ' hq => ?_) h1
    obtain ⟨τ', rfl, hI', hv, kn', rs, te, hkn', hk⟩ := hq
    exact regT_ok (hs.sub w2) (hs.put w1 hv hJ) hI' hkn' hk
theorem dregT_ok {J : (Nat → TV) → Prop} : ∀ {ops : List (AOp × Option Ty)} {kn : List (Nat × Bool)} {τ : TSt} {K : TSt → List Tr → Option R}, Stable (wrOps ops) J → J (lookT τ.r) → Inv P τ → KnOk kn τ.r → dregT tab ops kn τ K = some r → dregK P (opsOf ops) (img n τ) fun ts => ∃ τ', runP (fun _ => true) ts (img n τ) = img n τ' ∧ Inv P τ' ∧ J (lookT τ'.r) ∧ K τ' ts = some r
  | [], kn, τ, K, hs, hJ, hI, hkn, h => ⟨τ, rfl, hI, hJ, h⟩
  | (x, et) :: ops, kn, τ, K, hs, hJ, hI, hkn, h => by
    have h1 := (stepT_ok (n := n) hI hkn h).1
    obtain ⟨w1, w2⟩ := wrOps_mem (x := x) (et := et) (ops := ops)
    show stepTK P (img n τ) _ x fun t => dregK P (opsOf ops) (t.run (img n τ)) _
    refine stepTK_mono (fun t hq => ?_) h1
    obtain ⟨τ', kn', rs, te, ht, hrun, hI', hv, hkn', hk⟩ := hq
    rw [hrun]
    refine dregK_mono (fun ts hq => ?_) (dregT_ok (hs.sub w2) (hs.put w1 hv hJ) hI' hkn' hk)
    obtain ⟨τ'', k1, k2, k3, k4⟩ := hq
    exact ⟨τ'', by rw [runP_cons, hrun, k1], k2, k3, by rw [ht]; exact k4⟩
end
inductive Rn (ρ : Nat → Nat) (σ' : St) : PV → PV → Prop
  | nr {p : PV} (h : NoRef p) : Rn ρ σ' p p
  | ref {i lo len full : Nat} (h : σ'.slot i ≠ .fresh) : Rn ρ σ' (.ref (ρ i) lo len full) (.ref i lo len full)
  | ptr {i full e j : Nat} (h : σ'.slot i ≠ .fresh) : Rn ρ σ' (.ptr (ρ i) full e j) (.ptr i full e j)
  | un {p : PV} (h : ∀ k l, p ≠ .vs true k l) : Rn ρ σ' p .un
def RnR1 (ρ : Nat → Nat) (σ' : St) : R1 → R1 → Prop
  | .one p, .one q => Rn ρ σ' p q
  | .agg l, .agg m => All2 (Rn ρ σ') l m
  | _, _ => False
def RnRV (ρ : Nat → Nat) (σ' : St) : RV → RV → Prop
  | _, .un => True
  | .r x, .r y => RnR1 ρ σ' x y
  | .tup l, .tup m => All2 (RnR1 ρ σ') l m
  | _, _ => False
theorem All2.get {α β : Type} {R : α → β → Prop} {l : List α} {m : List β} (h : All2 R l m) : l.length = m.length ∧ ∀ (j : Nat) (a : α) (b : β), l[j]? = some a → m[j]? = some b → R a b := by
  induction h with
  | nil => exact ⟨rfl, by simp⟩
  | cons h t ih =>
    refine ⟨by simp [ih.1], fun j a b e1 e2 => ?_⟩
    cases j with
    | zero => simp at e1 e2; subst e1 e2; exact h
    | succ j => exact ih.2 j a b (by simpa using e1) (by simpa using e2)
theorem All2.app {α β : Type} {R : α → β → Prop} {l l' : List α} {m m' : List β} (h : All2 R l m) (k : All2 R l' m') : All2 R (l ++ l') (m ++ m') := by
  induction h with
  | nil => exact k
  | cons h t ih => exact .cons h ih
theorem All2.flat {α β : Type} {R : α → β → Prop} {l : List (List α)} {m : List (List β)} (h : All2 (All2 R) l m) : All2 R l.flatten m.flatten := by
  induction h with
  | nil => exact .nil
  | cons h t ih => exact h.app ih
section
variable {P : Program} {G : Fr} {X X' : Ctx} {F F' : Nat → List Nat} {σ σ' : St} {a : Act} {acts : List Act} {w w' : World} {M M' N : Nat → Prop} {ρ : Nat → Nat}
structure RnS (ρ : Nat → Nat) (σ σ' : St) : Prop where
  n : σ'.env.n = σ.env.n
  s : σ.sus = []
  s' : σ'.sus = []
  reg : ∀ t, RnRV ρ σ' (σ.reg t) (σ'.reg t)
  slot : ∀ i B', σ'.slot i = .live B' → ∃ B, σ.slot (ρ i) = .live B ∧ B'.kd = B.kd ∧ B'.k = B.k ∧ All2 (All2 (Rn ρ σ')) B.l B'.l
  dead : ∀ i, σ'.slot i ≠ .fresh → σ.slot (ρ i) ≠ .fresh
  inj : ∀ i j B B', σ'.slot i = .live B → σ'.slot j = .live B' → ρ i = ρ j → i = j
  win : ∀ i B, σ.slot i = .live B → B.kd = 2 → ρ i = i ∧ ∃ B', σ'.slot i = .live B'
def Ctx.rn (X : Ctx) (ρ : Nat → Nat) (σ' : St) : Ctx := ⟨σ'.slot, fun i => X.A (ρ i), fun i => X.C (ρ i), X.τ, X.N⟩
theorem RC.rn {p q : PV} {v : Value} {fp : List Nat} (h : RC w M X p v fp) (hr : Rn ρ σ' p q) (hS : ∀ i B', σ'.slot i = .live B' → ∃ B, X.H (ρ i) = .live B ∧ B'.kd = B.kd ∧ B'.k = B.k ∧ B.l.length = B'.l.length) (hM : ∀ g, g < w.heap.size → ¬ M g → ¬ M' g) : RC w M' (X.rn ρ σ') q v fp := by
  cases hr with
  | nr hn => exact h.move hn (fun _ _ => rfl) (fun _ _ _ => rfl) hM rfl
  | @ref i lo len full hf =>
    cases h with
    | ref h0 h hs =>
      refine .ref hf (fun B' hB' => ?_) hs
      obtain ⟨B, hB, e1, e2, e3⟩ := hS i B' hB'
      obtain ⟨k1, k2⟩ := h B hB
      refine ⟨by omega, fun e => ?_⟩
      obtain ⟨m1, m2, m3⟩ := k2 (by omega)
      exact ⟨by omega, m2, by unfold RefOk at m3 ⊢; rw [e2]; exact m3⟩
  | @ptr i full e j hf =>
    cases h with
    | ptr h0 h hs =>
      refine .ptr hf (fun B' hB' => ?_) hs
      obtain ⟨B, hB, e1, e2, e3⟩ := hS i B' hB'
      obtain ⟨k1, k2⟩ := h B hB
      refine ⟨by omega, fun e' => ?_⟩
      obtain ⟨m1, x, m2, m3⟩ := k2 (by omega)
      exact ⟨m1, x, m2, by rw [e2]; exact m3⟩
  | un hp => rw [h.fp_nil hp]; exact .un h.oneCell
theorem RCs.rn {ps qs : List PV} {xs : List Value} {fp : List Nat} (h : RCs w M X ps xs fp) (hr : All2 (Rn ρ σ') ps qs) (hS : ∀ i B', σ'.slot i = .live B' → ∃ B, X.H (ρ i) = .live B ∧ B'.kd = B.kd ∧ B'.k = B.k ∧ B.l.length = B'.l.length) (hM : ∀ g, g < w.heap.size → ¬ M g → ¬ M' g) : RCs w M' (X.rn ρ σ') qs xs fp := by
  obtain ⟨hl, fps, hf, rfl, hc⟩ := h
  obtain ⟨h1, h2⟩ := hr.get
  refine ⟨by omega, fps, hf, rfl, fun j q u f hq hu hff => ?_⟩
  have hj : j < ps.length := by have := (List.getElem?_eq_some_iff.1 hq).1; omega
  exact (hc j _ u f (List.getElem?_eq_getElem hj) hu hff).rn (h2 j _ q (List.getElem?_eq_getElem hj) hq) hS hM
theorem Wk.ren (ρ : Nat → Nat) (h0 : RnS ρ σ σ') : Wk G σ σ' := by
  rintro acts w ⟨X, F, h⟩
  have hS : ∀ i B', σ'.slot i = .live B' → ∃ B, X.H (ρ i) = .live B ∧ B'.kd = B.kd ∧ B'.k = B.k ∧ B.l.length = B'.l.length := by
    intro i B' hi
    obtain ⟨B, e1, e2, e3, e4⟩ := h0.slot i B' hi
    exact ⟨B, by rw [h.hH]; exact e1, e2, e3, e4.get.1⟩
  let X' := X.rn ρ σ'
  let F' : Nat → List Nat := fun i => F (ρ i)
  have hOwn : ∀ i, Own X' F' i = Own X F (ρ i) := fun i => rfl
  have hM1 : ∀ g, Mut1 X' F' g → Mut1 X F g := by
    rintro g ⟨i, B', hi, hg⟩
    obtain ⟨B, hB, _⟩ := hS i B' hi
    exact ⟨ρ i, B, hB, hg⟩
  have hM : ∀ g, g < w.heap.size → ¬ Mut X F g → ¬ Mut X' F' g := fun g _ hn hm => hn (hm.imp id (hM1 g))
  have hR1 : ∀ {x y : R1} {v : Value}, R1R w (Mut X F) X x v [] → RnR1 ρ σ' x y → R1R w (Mut X' F') X' y v [] := by
    intro x y v hx hr
    cases x with
    | one p =>
      cases y with
      | one q => exact RC.rn hx hr hS hM
      | agg m => exact hr.elim
    | agg l =>
      cases y with
      | one q => exact hr.elim
      | agg m =>
        obtain ⟨xs, e, hc⟩ := hx
        exact ⟨xs, e, hc.rn hr hS hM⟩
  refine ⟨X', F', ?_⟩
  exact {
    hH := fun i => rfl
    hτ := h.hτ
    hN := h.hN
    gok := h.gok
    envs := by
      show All2 _ (σ'.env :: σ'.sus) _
      rw [h0.s']
      have he := h.envs
      rw [h0.s] at he
      cases he with
      | cons e t =>
        cases t
        refine .cons ⟨e.defers, e.size.trans h0.n.symm, fun t => ?_⟩ .nil
        have h1 := e.reg t
        have h2 := h0.reg t
        have h1 : RVR w (Mut X F) X (σ.reg t) _ := h1
        show RVR w (Mut X' F') X' (σ'.reg t) _
        generalize σ.reg t = u at h1 h2
        generalize σ'.reg t = u' at h2
        cases u' with
        | un => trivial
        | r y =>
          cases u with
          | r x => exact hR1 h1 h2
          | tup l => exact h2.elim
          | un => exact h2.elim
        | tup m =>
          cases u with
          | r x => exact h2.elim
          | un => exact h2.elim
          | tup l =>
            obtain ⟨vs, e1, e2, e3⟩ := h1
            have h2 : All2 (RnR1 ρ σ') l m := h2
            obtain ⟨q1, q2⟩ := h2.get
            refine ⟨vs, e1, by omega, fun j x u hx hu => ?_⟩
            have hj : j < l.length := by have := (List.getElem?_eq_some_iff.1 hx).1; omega
            exact hR1 (e3 j _ u (List.getElem?_eq_getElem hj) hu) (q2 j _ x (List.getElem?_eq_getElem hj) hx)
    blk := fun i B' hi => by
      obtain ⟨B, e1, e2, e3, e4⟩ := h0.slot i B' hi
      obtain ⟨k1, xs, k2, k3⟩ := h.blk (ρ i) B (by rw [h.hH]; exact e1)
      have hll := e4.get.1
      refine ⟨fun c hc => ?_, xs, k2.rn e4.flat hS hM, ?_⟩
      · obtain ⟨j, hj⟩ := List.getElem?_of_mem hc
        have hj' : j < B.l.length := by have := (List.getElem?_eq_some_iff.1 hj).1; omega
        have := (e4.get.2 j _ c (List.getElem?_eq_getElem hj') hj).get.1
        rw [e3, ← this]
        exact k1 _ (List.getElem_mem hj')
      · rcases k3 with ⟨z1, e, z2⟩ | ⟨z1, x, z2, z3, z4⟩
        · exact .inl ⟨by omega, e, by rw [e3, ← hll]; exact z2⟩
        · exact .inr ⟨by omega, x, z2, by omega, z4⟩
    nd := fun i B' hi => by
      obtain ⟨B, hB, _⟩ := hS i B' hi
      exact h.nd (ρ i) B hB
    dj := fun i j B1 B2 hi hj hij => by
      obtain ⟨B, hB, _⟩ := hS i B1 hi
      obtain ⟨B', hB', _⟩ := hS j B2 hj
      exact h.dj (ρ i) (ρ j) B B' hB hB' fun e => hij (h0.inj i j B1 B2 hi hj e)
    lt := fun g hg => h.lt g (hM1 g hg)
    src := fun g hg => h.src g (hM1 g hg)
    kept := h.kept
    win := fun i x hx => by
      obtain ⟨B, hB, k1, k2, k3⟩ := h.win i x hx
      have hB' : σ.slot i = .live B := by rw [← h.hH]; exact hB
      obtain ⟨q1, B', q2⟩ := h0.win i B hB' k1
      obtain ⟨B0, e1, e2, e3, _⟩ := h0.slot i B' q2
      rw [q1, hB'] at e1
      injection e1 with e1; subst e1
      exact ⟨B', q2, e2.trans k1, by show X.A (ρ i) = _; rw [q1]; exact k2, e3.trans k3⟩ }
end
def pureC : TC → Bool
  | .c _ => true
  | .rp _ _ => true
  | .fn _ _ => true
  | .fv .. => true
  | _ => false
def pureCs : List TC → Bool
  | [] => true
  | c :: r => pureC c && pureCs r
def pureRs : List TR → Bool
  | [] => true
  | x :: r => pureCs x.cs && pureRs r
def pureV : TV → Bool
  | .r x => pureCs x.cs
  | .tup l => pureRs l
  | .un => true
def NormR (f g : Nat → TV) : Prop := ∀ r, g r = f r ∨ g r = .un ∨ pureV (f r) = false
theorem NormR.refl (f : Nat → TV) : NormR f f := fun _ => .inl rfl
theorem NormR.trans {f g h : Nat → TV} (a : NormR f g) (b : NormR g h) : NormR f h := fun r => by
  rcases a r with e | e | e
  · rcases b r with k | k | k
    · exact .inl (k.trans e)
    · exact .inr (.inl k)
    · exact .inr (.inr (by rw [← e]; exact k))
  · rcases b r with k | k | k
    · exact .inr (.inl (k.trans e))
    · exact .inr (.inl k)
    · rw [e] at k; cases k
  · exact .inr (.inr e)
def selR (r : List (Nat × TV)) : List Nat → List (Nat × TV)
  | [] => []
  | t :: l => match lookT r t with
    | .un => selR r l
    | v => (t, v) :: selR r l
def refAt (c : Nat) : Nat → List TC → Option Nat
  | _, [] => none
  | j, .ref i _ _ :: r => match Nat.beq i c with
    | true => some j
    | false => refAt c (j + 1) r
  | j, _ :: r => refAt c (j + 1) r
def rowOf : TB → List TC
  | .var _ cs => cs
  | .hole _ _ _ _ _ row _ _ => row
  | _ => []
def findPar (c : Nat) : Nat → List TB → Option (Nat × Nat)
  | _, [] => none
  | i, b :: r => match refAt c 0 (rowOf b) with
    | some j => some (i, j)
    | none => findPar c (i + 1) r
def idC (c : Nat) : TC → Bool
  | .ref i _ _ => Nat.beq i c
  | .part i _ _ _ _ => Nat.beq i c
  | .vp i _ => Nat.beq i c
  | .hp i _ _ _ _ => Nat.beq i c
  | _ => false
def idCs (c : Nat) : List TC → Bool
  | [] => false
  | x :: r => idC c x || idCs c r
def inRegs (c : Nat) : List (Nat × TV) → Bool
  | [] => false
  | (_, v) :: r => idCs c v.cs || inRegs c r
def ownCell : TB → Option (SC × Nat)
  | .sl t v l => some (.sl true t l, v)
  | .nb v k => some (.nl true k, v)
  | _ => none
def colH (τ : TSt) (c : Nat) : TSt :=
  match tbAt τ.h c with
  | .hole t v hv y pre row post memo => match hpIn c τ.r with
    | true => τ
    | false => match whole t (.hole t v hv y pre row post memo) with
      | some (v', l) => { τ with h := setT τ.h c (.sl t v' l) }
      | none => τ
  | _ => τ
def foldC (τ : TSt) (c : Nat) : TSt :=
  match inRegs c τ.r with
  | true => τ
  | false => match ownCell (tbAt τ.h c), findPar c 0 τ.h with
    | some (x, v), some (i, j) => match (rowOf (tbAt τ.h i))[j]? with
      | some (.ref c' v' n) => match Nat.beq c' c, Nat.beq v' v, Nat.beq i c with
        | true, true, false => { τ with h := setT (setT τ.h c .dead) i (setRow j [.c x] (tbAt τ.h i)) }
        | _, _, _ => τ
      | _ => τ
    | _, _ => τ
def foldAll : Nat → TSt → TSt
  | 0, τ => τ
  | c + 1, τ => foldAll c (foldC (colH τ c) c)
def frzR (n : Nat) (τ : TSt) (t : Nat) : TSt :=
  match lookT τ.r t with
  | .r (.one (.vp id 0)) => match tbAt τ.h id, Nat.ble (t + 1) n with
    | .var false cs, true => match toSC cs with
      | some xs => ⟨(t, .r (.one (.rp xs 0))) :: τ.r, setT τ.h id .dead, τ.g⟩
      | none => τ
    | _, _ => τ
  | _ => τ
def slB : TB → Bool
  | .nb _ _ => true
  | .sl _ _ _ => true
  | .hole .. => true
  | _ => false
def allSl (h : List TB) : List Nat → Bool
  | [] => true
  | i :: r => slB (tbAt h i) && allSl h r
def csL : List SC → List TC
  | [] => []
  | x :: r => .c x :: csL r
def frzV (n : Nat) (τ : TSt) (t : Nat) : TSt :=
  match pureV (lookT τ.r t), Nat.ble (t + 1) n with
  | false, true => match lookT τ.r t with
    | .r (.one c) => match viewL τ [c] with
      | some ([x], ln) => match allSl τ.h ln with
        | true => ⟨(t, .r (.one (.c x))) :: τ.r, setTs τ.h (tdeads ln), τ.g⟩
        | false => τ
      | _ => τ
    | .r (.agg cs) => match viewL τ cs with
      | some (xs, ln) => match allSl τ.h ln with
        | true => ⟨(t, .r (.agg (csL xs))) :: τ.r, setTs τ.h (tdeads ln), τ.g⟩
        | false => τ
      | _ => τ
    | _ => τ
  | _, _ => τ
def frzAll (n : Nat) : List Nat → TSt → TSt
  | [], τ => τ
  | t :: l, τ => frzAll n l (frzV n (frzR n τ t) t)
def idsCs : List TC → List Nat
  | [] => []
  | .ref i _ _ :: r => i :: idsCs r
  | .part i _ _ _ _ :: r => i :: idsCs r
  | .vp i _ :: r => i :: idsCs r
  | .hp i _ _ _ _ :: r => i :: idsCs r
  | _ :: r => idsCs r
def idsR : List (Nat × TV) → List Nat
  | [] => []
  | (_, v) :: r => idsCs v.cs ++ idsR r
def winIds : Nat → List TB → List Nat
  | _, [] => []
  | i, .var true _ :: r => i :: winIds (i + 1) r
  | i, _ :: r => winIds (i + 1) r
def reachB (h : List TB) : Nat → List Nat → List Nat → List Nat
  | 0, _, acc => acc
  | _ + 1, [], acc => acc
  | f + 1, i :: todo, acc => match memB i acc || !liveB (tbAt h i) with
    | true => reachB h f todo acc
    | false => reachB h f (todo ++ idsCs (rowOf (tbAt h i))) (acc ++ [i])
def idxOf : List Nat → Nat → Option Nat
  | [], _ => none
  | j :: r, i => match Nat.beq j i with
    | true => some 0
    | false => match idxOf r i with
      | some k => some (k + 1)
      | none => none
def numC (ρ : List Nat) (h : List TB) : TC → TC
  | .ref id v n => match idxOf ρ id, vlen (tbAt h id) with
    | some i, some (v', _) => match Nat.beq v v' with
      | true => .ref i 0 n
      | false => .un
    | _, _ => .un
  | .part id v lo len n => match idxOf ρ id, vlen (tbAt h id) with
    | some i, some (v', _) => match Nat.beq v v' with
      | true => .part i 0 lo len n
      | false => .un
    | _, _ => .un
  | .hp id v n e j => match idxOf ρ id, hinf (tbAt h id) with
    | some i, some (v', _) => match Nat.beq v v' with
      | true => .hp i 0 n e j
      | false => .un
    | _, _ => .un
  | .vp id j => match idxOf ρ id with
    | some i => .vp i j
    | none => .un
  | c => c
def numR (ρ : List Nat) (h : List TB) : TR → TR
  | .one c => .one (numC ρ h c)
  | .agg l => .agg (l.map (numC ρ h))
def numV (ρ : List Nat) (h : List TB) : TV → TV
  | .r x => .r (numR ρ h x)
  | .tup l => .tup (l.map (numR ρ h))
  | .un => .un
def numB (ρ : List Nat) (h : List TB) : TB → TB
  | .var w cs => .var w (cs.map (numC ρ h))
  | .nb _ k => .nb 0 k
  | .sl t _ l => .sl t 0 l
  | .hole t _ _ n pre row post memo => .hole t 0 0 n pre (row.map (numC ρ h)) post (match toSC row with
    | some _ => memo
    | none => none)
  | b => b
def winOk (ρ : List Nat) : Nat → List TB → Bool
  | _, [] => true
  | i, .var true _ :: r => (match ρ[i]? with
    | some k => Nat.beq k i
    | none => false) && winOk ρ (i + 1) r
  | i, _ :: r => winOk ρ (i + 1) r
def canon (τ : TSt) : TSt :=
  let ρ := reachB τ.h 4000 (winIds 0 τ.h ++ idsR τ.r) []
  match nodupB ρ && winOk ρ 0 τ.h && allLive τ.h ρ with
  | true => ⟨τ.r.map fun e => (e.1, numV ρ τ.h e.2), ρ.map fun i => numB ρ τ.h (tbAt τ.h i), 1⟩
  | false => τ
def norm (n : Nat) (frz lv : List Nat) (τ : TSt) : TSt :=
  canon (let τ1 : TSt := canon ⟨selR τ.r lv, τ.h, τ.g⟩
    let τ2 := frzAll n frz (foldAll τ1.h.length (foldAll τ1.h.length τ1))
    ⟨selR τ2.r lv, τ2.h, τ2.g⟩)
section
variable {P : Program} {G : Fr} {τ : TSt} {n : Nat}
structure Tidy (P : Program) (n : Nat) (τ τ' : TSt) : Prop where
  wk : ∀ G, Wk G (img n τ) (img n τ')
  inv : Inv P τ'
  nr : NormR (lookT τ.r) (lookT τ'.r)
theorem Tidy.refl (hI : Inv P τ) : Tidy P n τ τ := ⟨fun G => Wk.refl _, hI, NormR.refl _⟩
theorem Tidy.trans {τ' τ'' : TSt} (a : Tidy P n τ τ') (b : Tidy P n τ' τ'') : Tidy P n τ τ'' := ⟨fun G => (a.wk G).trans (b.wk G), b.inv, a.nr.trans b.nr⟩
theorem selR_look (r : List (Nat × TV)) : ∀ (lv : List Nat) (t : Nat), lookT (selR r lv) t = lookT r t ∨ lookT (selR r lv) t = .un
  | [], t => .inr rfl
  | s :: l, t => by
    simp only [selR]
    split
    · exact selR_look r l t
    · rename_i v hv
      simp only [lookT]
      split
      · rename_i e
        have := Nat.eq_of_beq_eq_true e
        subst this; exact .inl rfl
      · exact selR_look r l t
theorem selR_mem {r : List (Nat × TV)} : ∀ {lv : List Nat} {e : Nat × TV}, e ∈ selR r lv → lookT r e.1 = e.2 ∧ e.2 ≠ .un
  | s :: l, e, h => by
    simp only [selR] at h
    split at h
    · exact selR_mem h
    · rename_i v hv
      rcases List.mem_cons.1 h with rfl | h
      · exact ⟨rfl, fun e => hv e⟩
      · exact selR_mem h
theorem lookT_mem : ∀ (l : List (Nat × TV)) (t : Nat), lookT l t = .un ∨ ∃ e ∈ l, e.1 = t ∧ lookT l t = e.2
  | [], t => .inl rfl
  | (s, v) :: l, t => by
    simp only [lookT]
    split
    · rename_i h
      have := Nat.eq_of_beq_eq_true h
      exact .inr ⟨(s, v), by simp, this.symm, rfl⟩
    · rcases lookT_mem l t with k | ⟨e, he, k1, k2⟩
      · exact .inl k
      · exact .inr ⟨e, by simp [he], k1, k2⟩
theorem selR_tidy (hI : Inv P τ) (lv : List Nat) : Tidy P n τ ⟨selR τ.r lv, τ.h, τ.g⟩ := by
  refine ⟨fun G => ?_, ⟨fun e he c hc => ?_, hI.blks⟩, fun t => ?_⟩
  · refine Wk.regs (σ := img n τ) ((selR τ.r lv).map fun e => (e.1, e.2.rv)) fun e he => ?_
    obtain ⟨z, hz, rfl⟩ := List.mem_map.1 he
    have := img_reg (n := n) (τ := τ) z.1
    rw [(selR_mem hz).1] at this
    exact this
  · obtain ⟨h1, h2⟩ := selR_mem he
    rcases lookT_mem τ.r e.1 with k | ⟨z, hz, k1, k2⟩
    · rw [h1] at k; exact (h2 k).elim
    · rw [h1] at k2; rw [k2] at hc; exact hI.regs z hz c hc
  · rcases selR_look τ.r lv t with k | k
    · exact .inl k
    · exact .inr (.inl k)
theorem colH_tidy (hI : Inv P τ) (c : Nat) : Tidy P n τ (colH τ c) := by
  unfold colH
  split
  · rename_i t v hv y pre row post memo hB
    split
    · exact Tidy.refl hI
    · split
      · rename_i v' l hw
        have hbk := hI.blks c
        rw [hB] at hbk
        obtain ⟨w1, w2⟩ := whole_ok hbk hw
        have hlt := lt_of_tb hB (by simp)
        have hv' : v' = v := by simp only [vlen, Option.some.injEq, Prod.mk.injEq] at w2; exact w2.1.symm
        have le : HLe τ.h τ.g (setT τ.h c (.sl t v' l)) τ.g := by
          refine ⟨Nat.le_refl _, fun i u m hu e => ?_, fun i u m q hu e => ?_⟩
          · rw [tbAt_setT] at e
            by_cases hi : i = c
            · subst hi; rw [if_pos rfl] at e; rw [hB, w2]; exact e
            · rwa [if_neg hi] at e
          · rw [tbAt_setT] at e
            by_cases hi : i = c
            · subst hi; rw [if_pos rfl] at e; simp [hinf] at e
            · rwa [if_neg hi] at e
        refine ⟨fun G => ?_, ⟨fun e he c' hc => le.cok (hI.regs e he c' hc), fun i => ?_⟩, NormR.refl _⟩
        · have : img n { τ with h := setT τ.h c (.sl t v' l) } = img n τ := by
            simp only [img]
            rw [setT_same _ _ _ hlt (by rw [hB, w1]; rfl)]
          rw [this]; exact Wk.refl _
        · show bok P _ _ (tbAt (setT τ.h c _) i)
          rw [tbAt_setT]
          by_cases hi : i = c
          · rw [if_pos hi, hv']; exact hbk.1
          · rw [if_neg hi]; exact le.bok (hI.blks i)
      · exact Tidy.refl hI
  · exact Tidy.refl hI
theorem rowOf_row {i : Nat} {tb : TB} {j : Nat} {c : TC} (hb : bok P τ.h τ.g tb) (hB : tbAt τ.h i = tb) (hj : (rowOf tb)[j]? = some c) {x : SC} : ∃ (B : Blk) (e : Nat) (cl : List PV), (img n τ).slot i = .live B ∧ B.l[e]? = some cl ∧ cl[j]? = some c.pv ∧ (setRow j [.c x] tb).slot = .live { B with l := B.l.set e (cl.set j x.pv) } := by
  cases tb with
  | var w cs =>
    have hj' : cs[j]? = some c := hj
    have hjl := (List.getElem?_eq_some_iff.1 hj').1
    refine ⟨_, 0, cs.map TC.pv, by rw [img_slot, hB]; rfl, rfl, by simp [hj'], ?_⟩
    simp only [setRow, TB.slot, ← set_splice hjl]
    simp [TC.pv]
  | hole t v hv y pre row post memo =>
    have hj' : row[j]? = some c := hj
    have hjl := (List.getElem?_eq_some_iff.1 hj').1
    refine ⟨_, pre.length, row.map TC.pv, by rw [img_slot, hB]; rfl, hole_get, by simp [hj'], ?_⟩
    simp only [setRow, TB.slot, ← set_splice hjl, hole_set]
    simp [TC.pv]
  | _ => simp [rowOf] at hj
theorem ownCell_ok {c : Nat} {x : SC} {v : Nat} (h : ownCell (tbAt τ.h c) = some (x, v)) : ∃ k l, x.pv = .vs true k l ∧ (img n τ).slot c = .live ⟨0, k, [], l⟩ ∧ vlen (tbAt τ.h c) = some (v, l.length) ∧ ∀ r ∈ l, ∀ p ∈ r, NoRef p := by
  rw [img_slot]
  unfold ownCell at h
  split at h
  · rename_i t v' l hB
    simp only [Option.some.injEq, Prod.mk.injEq] at h; obtain ⟨rfl, rfl⟩ := h
    rw [hB]
    refine ⟨t.sz, l.map (enc t), rfl, rfl, by simp [vlen], fun r hr => ?_⟩
    obtain ⟨z, _, rfl⟩ := List.mem_map.1 hr
    exact enc_nr t z
  · rename_i v' k hB
    simp only [Option.some.injEq, Prod.mk.injEq] at h; obtain ⟨rfl, rfl⟩ := h
    rw [hB]
    exact ⟨k, [], rfl, rfl, rfl, by simp⟩
  · cases h
theorem foldC_tidy (hI : Inv P τ) (c : Nat) : Tidy P n τ (foldC τ c) := by
  unfold foldC
  split
  · exact Tidy.refl hI
  · split
    · rename_i x v i j hx hp
      split
      · rename_i c' v' m hj
        split
        · rename_i h1 h2 h3
          have h1 := Nat.eq_of_beq_eq_true h1
          have h2 := Nat.eq_of_beq_eq_true h2
          subst h1 h2
          have hne : c' ≠ i := fun e => by subst e; rw [Nat.beq_refl] at h3; cases h3
          obtain ⟨k, l, x1, x2, x3, x4⟩ := ownCell_ok (n := n) hx
          obtain ⟨B, e, cl, b1, b2, b3, b4⟩ := rowOf_row (n := n) (hI.blks i) rfl hj (x := x)
          have hm : m = l.length := by
            have hc : cok P τ.h τ.g (.ref c' v' m) := by
              have hb := hI.blks i
              revert hb hj
              cases tbAt τ.h i with
              | var w cs => intro hj hb; exact hb _ (List.mem_of_getElem? hj)
              | hole t v hv y pre row post memo => intro hj hb; exact hb.2.2.1 _ (List.mem_of_getElem? hj)
              | _ => intro hj; simp [rowOf] at hj
            exact hc.2 _ x3
          subst hm
          have hil : i < τ.h.length := tbAt_lt fun e => by rw [e] at hj; simp [rowOf] at hj
          have hcl : c' < τ.h.length := tbAt_lt fun e => by rw [e] at x3; cases x3
          have le : HLe τ.h τ.g (setT (setT τ.h c' .dead) i (setRow j [.c x] (tbAt τ.h i))) τ.g := by
            refine ⟨Nat.le_refl _, fun z u m hu e => ?_, fun z u m q hu e => ?_⟩
            · rw [tbAt_setT] at e
              by_cases hi : z = i
              · subst hi; rw [if_pos rfl, setRow_vlen] at e; exact e
              · rw [if_neg hi, tbAt_setT] at e
                by_cases hc : z = c'
                · rw [if_pos hc] at e; cases e
                · rwa [if_neg hc] at e
            · rw [tbAt_setT] at e
              by_cases hi : z = i
              · subst hi; rw [if_pos rfl, setRow_hinf] at e; exact e
              · rw [if_neg hi, tbAt_setT] at e
                by_cases hc : z = c'
                · rw [if_pos hc] at e; cases e
                · rwa [if_neg hc] at e
          refine ⟨fun G => ?_, ⟨fun e he c hc => le.cok (hI.regs e he c hc), fun z => ?_⟩, NormR.refl _⟩
          · have := Wk.fold (G := G) b1 b2 (show cl[j]? = some (.ref c' 0 l.length l.length) from b3) x2 rfl rfl hne rfl rfl x4
            rw [← x1] at this
            have e2 : ((img n τ).setSlot c' .dead).setSlot i (.live { B with l := B.l.set e (cl.set j x.pv) }) = img n { τ with h := setT (setT τ.h c' .dead) i (setRow j [.c x] (tbAt τ.h i)) } := by
              rw [← b4]
              show St.mk _ _ (setAt (setAt (τ.h.map TB.slot) c' (TB.dead).slot) i _) = _
              rw [setAt_map, setAt_map]; rfl
            rw [e2] at this
            exact this
          · show bok P _ _ (tbAt (setT (setT τ.h c' .dead) i _) z)
            rw [tbAt_setT]
            by_cases hi : z = i
            · rw [if_pos hi]
              have hb := le.bok (hI.blks i)
              revert hb hj
              cases tbAt τ.h i with
              | var w cs =>
                intro hj hb c hc
                rcases mem_splice hc with hc | hc
                · exact hb c hc
                · have : c = .c x := by simpa using hc
                  subst this; trivial
              | hole t v hv y pre row post memo =>
                intro hj hb
                obtain ⟨q1, q2, q3, q4, q5, q6⟩ := hb
                have hjl := (List.getElem?_eq_some_iff.1 (show row[j]? = _ from hj)).1
                refine ⟨q1, q2, fun c hc => ?_, by rw [splice_len (by simp; omega)]; exact q4, q5, by simp⟩
                rcases mem_splice hc with hc | hc
                · exact q3 c hc
                · have : c = .c x := by simpa using hc
                  subst this; trivial
              | _ => intro hj; simp [rowOf] at hj
            · rw [if_neg hi, tbAt_setT]
              by_cases hc : z = c'
              · rw [if_pos hc]; trivial
              · rw [if_neg hc]; exact le.bok (hI.blks z)
        · exact Tidy.refl hI
      · exact Tidy.refl hI
    · exact Tidy.refl hI
theorem foldAll_tidy : ∀ (k : Nat) {τ : TSt}, Inv P τ → Tidy P n τ (foldAll k τ)
  | 0, τ, hI => Tidy.refl hI
  | k + 1, τ, hI => by
    have h1 := colH_tidy (n := n) hI k
    have h2 := foldC_tidy (n := n) h1.inv k
    exact (h1.trans h2).trans (foldAll_tidy k h2.inv)
theorem vcL_sc {σ : St} : ∀ (l : List SC), vcL σ (l.map SC.pv) = some (l.map SC.pv, [])
  | [] => rfl
  | x :: l => by
    have : vc σ x.pv = some (x.pv, []) := by cases x <;> rfl
    simp [vcL, this, vcL_sc l]
theorem frzR_tidy (hI : Inv P τ) (t : Nat) : Tidy P n τ (frzR n τ t) := by
  unfold frzR
  split
  · rename_i id ht
    split
    · rename_i cs hB hn
      split
      · rename_i xs hxs
        have hn := Nat.le_of_ble_eq_true hn
        have hs : (img n τ).slot id = .live ⟨1, cs.length, [], [xs.map SC.pv]⟩ := by rw [img_slot, hB, ← toSC_ok hxs]; rfl
        have hreg : (img n τ).reg t = .r (.one (.ptr id 1 0 0)) := by rw [img_reg, ht]; rfl
        have le : HLe τ.h τ.g (setT τ.h id .dead) τ.g := by
          refine ⟨Nat.le_refl _, fun z u m hu e => ?_, fun z u m q hu e => ?_⟩
          · rw [tbAt_setT] at e
            by_cases hi : z = id
            · rw [if_pos hi] at e; cases e
            · rwa [if_neg hi] at e
          · rw [tbAt_setT] at e
            by_cases hi : z = id
            · rw [if_pos hi] at e; cases e
            · rwa [if_neg hi] at e
        refine ⟨fun G => ?_, ⟨fun e he c hc => ?_, fun z => ?_⟩, fun s => ?_⟩
        · have := Wk.freeze (G := G) (l := [id]) (x := .one (.rp (xs.map SC.pv) 0)) hreg (by
              simp only [vwR, vwP, hs]
              refine ⟨rfl, xs.map SC.pv, rfl, ?_⟩
              rw [vcL_sc]; exact ⟨rfl, rfl⟩) (fun i hi => by
              have : i = id := by simpa using hi
              subst this; exact ⟨_, hs, by simp⟩) (fun p hp => by
              have : p = .rp (xs.map SC.pv) 0 := by simpa [R1.cs] using hp
              subst this; exact .rp nr_map) (show t < n by omega)
          have e2 : (kills (img n τ) [id]).put t (.r (.one (.rp (xs.map SC.pv) 0))) = img n ⟨(t, .r (.one (.rp xs 0))) :: τ.r, setT τ.h id .dead, τ.g⟩ := by
            show St.mk _ _ (setAt (τ.h.map TB.slot) id (TB.dead).slot) = _
            rw [setAt_map]; rfl
          rw [e2] at this; exact this
        · rcases List.mem_cons.1 he with rfl | he
          · have : c = .rp xs 0 := by simpa [TV.cs, TR.cs] using hc
            subst this; trivial
          · exact le.cok (hI.regs e he c hc)
        · show bok P _ _ (tbAt (setT τ.h id .dead) z)
          rw [tbAt_setT]
          by_cases hi : z = id
          · rw [if_pos hi]; trivial
          · rw [if_neg hi]; exact le.bok (hI.blks z)
        · simp only [lookT]
          split
          · rename_i e
            have := Nat.eq_of_beq_eq_true e
            subst this
            exact .inr (.inr (by rw [ht]; rfl))
          · exact .inl rfl
      · exact Tidy.refl hI
    · exact Tidy.refl hI
  · exact Tidy.refl hI
theorem csL_pv : ∀ (l : List SC), (csL l).map TC.pv = l.map SC.pv
  | [] => rfl
  | x :: r => by simp only [csL, List.map_cons, TC.pv, csL_pv r]
theorem csL_c : ∀ {l : List SC} {c : TC}, c ∈ csL l → ∃ x, c = .c x
  | x :: r, c, h => by
    rcases List.mem_cons.1 h with rfl | h
    · exact ⟨_, rfl⟩
    · exact csL_c h
theorem allSl_ok {h : List TB} : ∀ {l : List Nat}, allSl h l = true → ∀ i ∈ l, slB (tbAt h i) = true
  | [], _, i, hi => by cases hi
  | x :: r, k, i, hi => by
    simp only [allSl, Bool.and_eq_true] at k
    rcases List.mem_cons.1 hi with rfl | hi
    · exact k.1
    · exact allSl_ok k.2 i hi
theorem kills_img : ∀ (l : List Nat) (τ : TSt), kills (img n τ) l = img n ⟨τ.r, setTs τ.h (tdeads l), τ.g⟩
  | [], τ => rfl
  | i :: l, τ => by
    have e : (img n τ).setSlot i .dead = img n ⟨τ.r, setT τ.h i .dead, τ.g⟩ := by
      show St.mk _ _ (setAt (τ.h.map TB.slot) i (TB.dead).slot) = _
      rw [setAt_map]; rfl
    simp only [kills, e]
    exact kills_img l ⟨τ.r, setT τ.h i .dead, τ.g⟩
theorem deads_le (h : List TB) (g : Nat) (l : List Nat) : HLe h g (setTs h (tdeads l)) g := by
  refine ⟨Nat.le_refl _, fun z u m hu e => ?_, fun z u m q hu e => ?_⟩
  · rcases setTs_or (tdeads l) h z with k | ⟨x, k1, k2⟩
    · rwa [k] at e
    · rw [k2, show x = _ from tdeads_mem k1] at e; cases e
  · rcases setTs_or (tdeads l) h z with k | ⟨x, k1, k2⟩
    · rwa [k] at e
    · rw [k2, show x = _ from tdeads_mem k1] at e; cases e
theorem frz_put (hI : Inv P τ) {t : Nat} {r : TR} {y : TR} {ln : List Nat} (hr : lookT τ.r t = .r r) (hv : vwR (img n τ) r.r1 y.r1 fun l' => l' = ln) (hs : allSl τ.h ln = true) (hn : ∀ p ∈ y.r1.cs, NoRef p) (hy : ∀ c ∈ y.cs, ∃ x, c = .c x) (hp : pureV (lookT τ.r t) = false) (ht : t < n) : Tidy P n τ ⟨(t, .r y) :: τ.r, setTs τ.h (tdeads ln), τ.g⟩ := by
  have le := deads_le τ.h τ.g ln
  refine ⟨fun G => ?_, ⟨fun e he c hc => ?_, fun z => ?_⟩, fun s => ?_⟩
  · have hreg : (img n τ).reg t = .r r.r1 := by rw [img_reg, hr]; rfl
    have := Wk.freeze (G := G) hreg hv (fun i hi => by
      have := allSl_ok hs i hi
      rw [img_slot]
      revert this
      cases tbAt τ.h i <;> intro k <;> first | (cases k; done) | exact ⟨_, rfl, by simp⟩) hn (show t < n from ht)
    rw [kills_img] at this
    exact this
  · rcases List.mem_cons.1 he with rfl | he
    · obtain ⟨x, rfl⟩ := hy c hc; trivial
    · exact le.cok (hI.regs e he c hc)
  · show bok P _ _ (tbAt (setTs τ.h (tdeads ln)) z)
    rcases setTs_or (tdeads ln) τ.h z with k | ⟨x, k1, k2⟩
    · rw [k]; exact le.bok (hI.blks z)
    · rw [k2, show x = _ from tdeads_mem k1]; trivial
  · simp only [lookT]
    split
    · rename_i e
      have := Nat.eq_of_beq_eq_true e
      subst this
      exact .inr (.inr hp)
    · exact .inl rfl
theorem frzV_tidy (hI : Inv P τ) (t : Nat) : Tidy P n τ (frzV n τ t) := by
  have hck : ∀ c ∈ (lookT τ.r t).cs, cok P τ.h τ.g c := by
    intro c hc
    rcases lookT_mem τ.r t with k | ⟨z, hz, k1, k2⟩
    · rw [k] at hc; simp [TV.cs] at hc
    · rw [k2] at hc; exact hI.regs z hz c hc
  unfold frzV
  split
  · rename_i hp hn
    have hn := Nat.le_of_ble_eq_true hn
    split
    · rename_i c hl
      split
      · rename_i x ln hx
        split
        · rename_i hs
          have hv := viewL_ok (n := n) hI (K := fun l' => l' = ln) (fun c' hc => hck c' (by rw [hl]; exact hc)) hx rfl
          refine frz_put hI (r := .one c) hl ?_ hs (fun p hp => ?_) (fun c' hc => ?_) hp (by omega)
          · have hv : vwP (img n τ) c.pv x.pv fun l => (l ++ []) = ln := hv
            simp only [List.append_nil] at hv
            exact hv
          · have : p = x.pv := by simpa [TR.r1, R1.cs, TC.pv] using hp
            subst this; exact x.nr
          · have : c' = .c x := by simpa [TR.cs] using hc
            subst this; exact ⟨_, rfl⟩
        · exact Tidy.refl hI
      · exact Tidy.refl hI
    · rename_i cs hl
      split
      · rename_i xs ln hx
        split
        · rename_i hs
          have hv := viewL_ok (n := n) hI (K := fun l' => l' = ln) (fun c' hc => hck c' (by rw [hl]; exact hc)) hx rfl
          refine frz_put hI (r := .agg cs) (y := .agg (csL xs)) hl ?_ hs (fun p hp => ?_) (fun c' hc => csL_c hc) hp (by omega)
          · show vwL (img n τ) (cs.map TC.pv) ((csL xs).map TC.pv) _
            rw [csL_pv]; exact hv
          · have hp : p ∈ (csL xs).map TC.pv := hp
            rw [csL_pv] at hp
            exact nr_map p hp
        · exact Tidy.refl hI
      · exact Tidy.refl hI
    · exact Tidy.refl hI
  · exact Tidy.refl hI
theorem frzAll_tidy : ∀ (l : List Nat) {τ : TSt}, Inv P τ → Tidy P n τ (frzAll n l τ)
  | [], τ, hI => Tidy.refl hI
  | t :: l, τ, hI => by
    have h1 := frzR_tidy (n := n) hI t
    have h2 := frzV_tidy (n := n) h1.inv t
    exact (h1.trans h2).trans (frzAll_tidy l h2.inv)
theorem idxOf_ok : ∀ {l : List Nat} {x i : Nat}, idxOf l x = some i → l[i]? = some x
  | [], x, i, h => by cases h
  | y :: r, x, i, h => by
    simp only [idxOf] at h
    split at h
    · rename_i e; injection h with h; subst h; simp [Nat.eq_of_beq_eq_true e]
    · split at h
      · rename_i k hk; injection h with h; subst h; simpa using idxOf_ok hk
      · cases h
theorem tbAt_get : ∀ (l : List TB) (i : Nat), tbAt l i = (l[i]?).getD .fresh
  | [], i => by cases i <;> simp [tbAt]
  | s :: l, 0 => by simp [tbAt]
  | s :: l, i + 1 => by simp [tbAt, tbAt_get l i]
theorem lookT_map (f : TV → TV) (h0 : f .un = .un) : ∀ (l : List (Nat × TV)) (t : Nat), lookT (l.map fun e => (e.1, f e.2)) t = f (lookT l t)
  | [], t => h0.symm
  | (s, v) :: l, t => by
    simp only [List.map_cons, lookT]
    split
    · rfl
    · exact lookT_map f h0 l t
theorem pureC_num {ρ : List Nat} {h : List TB} {c : TC} (hp : pureC c = true) : numC ρ h c = c := by
  cases c <;> first | rfl | cases hp
theorem pureCs_num {ρ : List Nat} {h : List TB} : ∀ {l : List TC}, pureCs l = true → l.map (numC ρ h) = l
  | [], _ => rfl
  | c :: l, hp => by
    simp only [pureCs, Bool.and_eq_true] at hp
    simp [pureC_num hp.1, pureCs_num hp.2]
theorem pureR_num {ρ : List Nat} {h : List TB} {x : TR} (hp : pureCs x.cs = true) : numR ρ h x = x := by
  cases x with
  | one c =>
    simp only [TR.cs, pureCs, Bool.and_eq_true] at hp
    simp [numR, pureC_num hp.1]
  | agg l => simp only [numR, pureCs_num (l := l) hp]
theorem pureRs_num {ρ : List Nat} {h : List TB} : ∀ {l : List TR}, pureRs l = true → l.map (numR ρ h) = l
  | [], _ => rfl
  | x :: l, hp => by
    simp only [pureRs, Bool.and_eq_true] at hp
    simp [pureR_num hp.1, pureRs_num hp.2]
theorem pureV_num {ρ : List Nat} {h : List TB} {v : TV} (hp : pureV v = true) : numV ρ h v = v := by
  cases v with
  | r x => simp only [numV, pureR_num (x := x) hp]
  | tup l => simp only [numV, pureRs_num (l := l) hp]
  | un => rfl
theorem toSC_pure : ∀ {l : List TC} {m : List SC}, toSC l = some m → pureCs l = true
  | [], _, _ => rfl
  | c :: l, m, h => by
    unfold toSC at h
    split at h
    · rename_i e; cases e
    · rename_i e
      injection e with e1 e2; subst e1 e2
      split at h
      · rename_i hm; simp only [pureCs, pureC, Bool.true_and]; exact toSC_pure hm
      · cases h
    · cases h
theorem winOk_ok {ρ : List Nat} : ∀ {l : List TB} {i : Nat}, winOk ρ i l = true → ∀ j cs, tbAt l j = .var true cs → ρ[i + j]? = some (i + j)
  | [], i, _, j, cs, e => by cases j <;> cases e
  | b :: l, i, h, 0, cs, e => by
    have e : b = .var true cs := e
    subst e
    simp only [winOk, Bool.and_eq_true] at h
    have h := h.1
    split at h
    · rename_i k hk; rw [Nat.add_zero, hk, Nat.eq_of_beq_eq_true h]
    · cases h
  | b :: l, i, h, j + 1, cs, e => by
    have h' : winOk ρ (i + 1) l = true := by
      unfold winOk at h
      split at h
      · rename_i e; cases e
      · rename_i e; injection e with e1 e2; subst e2; simp only [Bool.and_eq_true] at h; exact h.2
      · rename_i e; injection e with e1 e2; subst e2; exact h
    have := winOk_ok h' j cs e
    rwa [show i + 1 + j = i + (j + 1) by omega] at this
theorem vlen_num {ρ : List Nat} {h : List TB} {tb : TB} : vlen (numB ρ h tb) = (vlen tb).map fun z => (0, z.2) := by cases tb <;> rfl
theorem hinf_num {ρ : List Nat} {h : List TB} {tb : TB} : hinf (numB ρ h tb) = (hinf tb).map fun z => (0, z.2) := by cases tb <;> rfl
theorem All2.map {α β γ : Type} {R : β → γ → Prop} {f : α → β} {g : α → γ} : ∀ {l : List α}, (∀ a ∈ l, R (f a) (g a)) → All2 R (l.map f) (l.map g)
  | [], _ => .nil
  | a :: l, h => .cons (h a (by simp)) (All2.map fun b hb => h b (by simp [hb]))
theorem All2.nrs {ρ : Nat → Nat} {σ' : St} {l : List PV} (h : ∀ p ∈ l, NoRef p) : All2 (Rn ρ σ') l l := by
  have := All2.map (R := Rn ρ σ') (f := id) (g := id) (l := l) fun a ha => .nr (h a ha)
  simpa using this
theorem All2.encs {ρ : Nat → Nat} {σ' : St} {t : Ty} (l : List (Den t)) : All2 (All2 (Rn ρ σ')) (l.map (enc t)) (l.map (enc t)) := All2.map fun a _ => All2.nrs (enc_nr t a)
theorem canon_tidy (hI : Inv P τ) : Tidy P n τ (canon τ) := by
  unfold canon
  generalize reachB τ.h 4000 (winIds 0 τ.h ++ idsR τ.r) [] = ρ
  simp only
  split
  · rename_i hc
    simp only [Bool.and_eq_true] at hc
    obtain ⟨⟨c1, c2⟩, c3⟩ := hc
    have hnd := nodupB_ok c1
    have hlv := allLive_ok c3
    let τ' : TSt := ⟨τ.r.map fun e => (e.1, numV ρ τ.h e.2), ρ.map fun i => numB ρ τ.h (tbAt τ.h i), 1⟩
    show Tidy P n τ τ'
    have hat : ∀ {i id : Nat}, ρ[i]? = some id → tbAt τ'.h i = numB ρ τ.h (tbAt τ.h id) := by
      intro i id h; rw [tbAt_get]; simp [τ', h]
    have hge : ∀ i, ρ[i]? = none → tbAt τ'.h i = .fresh := by
      intro i h; rw [tbAt_get]; simp [τ', h]
    have hrho : ∀ {i id : Nat}, ρ[i]? = some id → ρ.getD i 0 = id := by intro i id h; simp [h]
    have hnf : ∀ {i id : Nat}, ρ[i]? = some id → (img n τ').slot i ≠ .fresh := by
      intro i id h
      rw [img_slot, hat h]
      have := hlv id (List.mem_of_getElem? h)
      revert this
      cases tbAt τ.h id <;> intro k <;> first | (intro e; cases e; done) | cases k
    have hC : ∀ c, cok P τ.h τ.g c → Rn (fun i => ρ.getD i 0) (img n τ') c.pv (numC ρ τ.h c).pv := by
      intro c hc
      cases c with
      | c x => exact .nr x.nr
      | rp l j => exact .nr (.rp nr_map)
      | fn f l => exact .nr (.fn fun q hq => by obtain ⟨z, _, rfl⟩ := List.mem_map.1 hq; exact capPV_nr z)
      | fv f m a r p => exact .nr (.fn fun q hq => (hc.1 q hq).1)
      | un => exact .un (by simp [TC.pv])
      | ref id v m =>
        simp only [numC]
        split
        · rename_i i v' m' hi hv
          split
          · have := idxOf_ok hi
            have e := Rn.ref (ρ := fun i => ρ.getD i 0) (lo := 0) (len := m) (full := m) (hnf this)
            simp only [hrho this] at e
            exact e
          · exact .un (by simp [TC.pv])
        · exact .un (by simp [TC.pv])
      | part id v lo len m =>
        simp only [numC]
        split
        · rename_i i v' m' hi hv
          split
          · have := idxOf_ok hi
            have e := Rn.ref (ρ := fun i => ρ.getD i 0) (lo := lo) (len := len) (full := m) (hnf this)
            simp only [hrho this] at e
            exact e
          · exact .un (by simp [TC.pv])
        · exact .un (by simp [TC.pv])
      | vp id j =>
        simp only [numC]
        split
        · rename_i i hi
          have := idxOf_ok hi
          have e := Rn.ptr (ρ := fun i => ρ.getD i 0) (full := 1) (e := 0) (j := j) (hnf this)
          simp only [hrho this] at e
          exact e
        · exact .un (by simp [TC.pv])
      | hp id v m e j =>
        simp only [numC]
        split
        · rename_i i v' m' hi hv
          split
          · have := idxOf_ok hi
            have e := Rn.ptr (ρ := fun i => ρ.getD i 0) (full := m) (e := e) (j := j) (hnf this)
            simp only [hrho this] at e
            exact e
          · exact .un (by simp [TC.pv])
        · exact .un (by simp [TC.pv])
    have hR : ∀ x : TR, (∀ c ∈ x.cs, cok P τ.h τ.g c) → RnR1 (fun i => ρ.getD i 0) (img n τ') x.r1 (numR ρ τ.h x).r1 := by
      intro x hx
      cases x with
      | one c => exact hC c (hx c (by simp [TR.cs]))
      | agg l =>
        simp only [numR, TR.r1, RnR1, List.map_map]
        exact All2.map fun c hc => hC c (hx c hc)
    have hlook : ∀ t, ∀ c ∈ (lookT τ.r t).cs, cok P τ.h τ.g c := by
      intro t c hc
      rcases lookT_mem τ.r t with k | ⟨z, hz, k1, k2⟩
      · rw [k] at hc; simp [TV.cs] at hc
      · rw [k2] at hc; exact hI.regs z hz c hc
    have hlm : ∀ t, lookT τ'.r t = numV ρ τ.h (lookT τ.r t) := fun t => lookT_map (numV ρ τ.h) rfl τ.r t
    have hck : ∀ c, cok P τ.h τ.g c → cok P τ'.h 1 (numC ρ τ.h c) := by
      intro c hc
      cases c with
      | ref id v m =>
        simp only [numC]
        split
        · rename_i i v' m' hi hv
          split
          · rename_i e
            have e := Nat.eq_of_beq_eq_true e; subst e
            refine ⟨Nat.one_pos, fun k hk => ?_⟩
            rw [hat (idxOf_ok hi), vlen_num, hv] at hk
            simp at hk
            rw [hc.2 _ hv]; exact hk
          · trivial
        · trivial
      | part id v lo len m =>
        simp only [numC]
        split
        · rename_i i v' m' hi hv
          split
          · rename_i e
            have e := Nat.eq_of_beq_eq_true e; subst e
            refine ⟨⟨Nat.one_pos, fun k hk => ?_⟩, hc.2⟩
            rw [hat (idxOf_ok hi), vlen_num, hv] at hk
            simp at hk
            rw [hc.1.2 _ hv]; exact hk
          · trivial
        · trivial
      | hp id v m e j =>
        simp only [numC]
        split
        · rename_i i v' m' hi hv
          split
          · rename_i e'
            have e' := Nat.eq_of_beq_eq_true e'; subst e'
            refine ⟨Nat.one_pos, fun k q hk => ?_⟩
            rw [hat (idxOf_ok hi), hinf_num, hv] at hk
            simp at hk
            obtain ⟨k1, k2⟩ := m'
            have := hc.2 _ _ hv
            simp at hk
            omega
          · trivial
        · trivial
      | vp id j => simp only [numC]; split <;> trivial
      | fv f m a r p => exact hc
      | _ => trivial
    refine ⟨fun G => Wk.ren (fun i => ρ.getD i 0) ⟨rfl, rfl, rfl, fun t => ?_, fun i B' hB' => ?_, fun i hi => ?_, fun i j B B' hi hj e => ?_, fun i B hB hk => ?_⟩, ⟨fun e he c hc => ?_, fun i => ?_⟩, fun t => ?_⟩
    · rw [img_reg, img_reg, hlm]
      have h1 := hlook t
      generalize lookT τ.r t = v at h1
      cases v with
      | r x => exact hR x h1
      | tup l =>
        simp only [TV.rv, numV, RnRV, List.map_map]
        exact All2.map fun x hx => hR x fun c hc => h1 c (by simp only [TV.cs, List.mem_flatMap]; exact ⟨x, hx, hc⟩)
      | un => trivial
    · cases hi : ρ[i]? with
      | none => rw [img_slot, hge i hi] at hB'; cases hB'
      | some id =>
        rw [img_slot, hat hi] at hB'
        have hl := hlv id (List.mem_of_getElem? hi)
        have hbk := hI.blks id
        simp only [hrho hi, img_slot]
        revert hB' hl hbk
        cases tbAt τ.h id with
        | var w cs =>
          intro hB' _ hbk
          simp only [numB, TB.slot, Slot.live.injEq] at hB'; subst hB'
          refine ⟨_, rfl, rfl, by simp, .cons ?_ .nil⟩
          rw [List.map_map]
          exact All2.map fun c hc => hC c (hbk c hc)
        | nb v k =>
          intro hB' _ _
          simp only [numB, TB.slot, Slot.live.injEq] at hB'; subst hB'
          exact ⟨_, rfl, rfl, rfl, .nil⟩
        | sl t v l =>
          intro hB' _ _
          simp only [numB, TB.slot, Slot.live.injEq] at hB'; subst hB'
          exact ⟨_, rfl, rfl, rfl, All2.encs l⟩
        | hole t v hv y pre row post memo =>
          intro hB' _ hbk
          simp only [numB, TB.slot, Slot.live.injEq] at hB'; subst hB'
          refine ⟨_, rfl, rfl, rfl, (All2.encs pre).app (.cons ?_ (All2.encs post))⟩
          rw [List.map_map]
          exact All2.map fun c hc => hC c (hbk.2.2.1 c hc)
        | fresh => intro hB'; cases hB'
        | dead => intro hB'; cases hB'
    · cases hi' : ρ[i]? with
      | none => rw [img_slot, hge i hi'] at hi; exact (hi rfl).elim
      | some id =>
        simp only [hrho hi', img_slot]
        have hl := hlv id (List.mem_of_getElem? hi')
        revert hl
        cases tbAt τ.h id <;> intro k <;> first | (intro e; cases e; done) | cases k
    · cases hi' : ρ[i]? with
      | none => rw [img_slot, hge i hi'] at hi; cases hi
      | some id =>
        cases hj' : ρ[j]? with
        | none => rw [img_slot, hge j hj'] at hj; cases hj
        | some jd =>
          simp only [hrho hi', hrho hj'] at e
          subst e
          obtain ⟨a1, a2⟩ := List.getElem?_eq_some_iff.1 hi'
          obtain ⟨b1, b2⟩ := List.getElem?_eq_some_iff.1 hj'
          exact (List.getElem_inj hnd).1 (a2.trans b2.symm)
    · rw [img_slot] at hB
      have hv : ∃ cs, tbAt τ.h i = .var true cs := by
        revert hB
        cases tbAt τ.h i with
        | var w cs =>
          intro hB
          simp only [TB.slot, Slot.live.injEq] at hB; subst hB
          cases w with
          | true => exact ⟨cs, rfl⟩
          | false => simp at hk
        | nb v k => intro hB; simp only [TB.slot, Slot.live.injEq] at hB; subst hB; cases hk
        | sl t v l => intro hB; simp only [TB.slot, Slot.live.injEq] at hB; subst hB; cases hk
        | hole t v hv y pre row post memo => intro hB; simp only [TB.slot, Slot.live.injEq] at hB; subst hB; cases hk
        | fresh => intro hB; cases hB
        | dead => intro hB; cases hB
      obtain ⟨cs, hcs⟩ := hv
      have := winOk_ok c2 i cs hcs
      rw [Nat.zero_add] at this
      refine ⟨by simpa using hrho this, ?_⟩
      rw [img_slot, hat this, hcs]
      exact ⟨_, rfl⟩
    · obtain ⟨z, hz, rfl⟩ := List.mem_map.1 he
      have hz' := hI.regs z hz
      simp only at hc
      obtain ⟨s, v⟩ := z
      cases v with
      | r x =>
        cases x with
        | one c0 =>
          have : c = numC ρ τ.h c0 := by simpa [numV, numR, TV.cs, TR.cs] using hc
          subst this
          exact hck _ (hz' c0 (by simp [TV.cs, TR.cs]))
        | agg l =>
          obtain ⟨c0, hc0, rfl⟩ := List.mem_map.1 (show c ∈ l.map (numC ρ τ.h) from hc)
          exact hck _ (hz' c0 hc0)
      | tup l =>
        simp only [numV, TV.cs, List.mem_flatMap, List.mem_map] at hc
        obtain ⟨x, ⟨y, hy, rfl⟩, hc⟩ := hc
        have hy' : ∀ c ∈ y.cs, cok P τ.h τ.g c := fun c hc => hz' c (by simp only [TV.cs, List.mem_flatMap]; exact ⟨y, hy, hc⟩)
        cases y with
        | one c0 =>
          have : c = numC ρ τ.h c0 := by simpa [numR, TR.cs] using hc
          subst this
          exact hck _ (hy' c0 (by simp [TR.cs]))
        | agg l =>
          obtain ⟨c0, hc0, rfl⟩ := List.mem_map.1 (show c ∈ l.map (numC ρ τ.h) from hc)
          exact hck _ (hy' c0 hc0)
      | un => simp [numV, TV.cs] at hc
    · show bok P τ'.h 1 (tbAt τ'.h i)
      cases hi : ρ[i]? with
      | none => rw [hge i hi]; trivial
      | some id =>
        rw [hat hi]
        have hbk := hI.blks id
        revert hbk
        cases tbAt τ.h id with
        | var w cs =>
          intro hbk c hc
          obtain ⟨c0, hc0, rfl⟩ := List.mem_map.1 hc
          exact hck _ (hbk c0 hc0)
        | nb v k => intro _; exact Nat.one_pos
        | sl t v l => intro _; exact Nat.one_pos
        | hole t v hv y pre row post memo =>
          rintro ⟨q1, q2, q3, q4, q5, q6⟩
          refine ⟨Nat.one_pos, Nat.one_pos, fun c hc => ?_, by simpa using q4, q5, fun l hl => ?_⟩
          · obtain ⟨c0, hc0, rfl⟩ := List.mem_map.1 hc
            exact hck _ (q3 c0 hc0)
          · split at hl
            · rename_i hr
              rw [pureCs_num (toSC_pure hr)]
              exact q6 l hl
            · cases hl
        | _ => intro _; trivial
    · rw [hlm]
      cases hp : pureV (lookT τ.r t) with
      | true => exact .inl (pureV_num hp)
      | false => exact .inr (.inr rfl)
  · exact Tidy.refl hI
theorem norm_tidy (hI : Inv P τ) (frz lv : List Nat) : Tidy P n τ (norm n frz lv τ) := by
  have h0 := selR_tidy (n := n) hI lv
  have h1 := h0.trans (canon_tidy h0.inv)
  have h2 := (foldAll_tidy (n := n) (canon ⟨selR τ.r lv, τ.h, τ.g⟩).h.length h1.inv).trans (foldAll_tidy (n := n) (canon ⟨selR τ.r lv, τ.h, τ.g⟩).h.length (foldAll_tidy (n := n) (canon ⟨selR τ.r lv, τ.h, τ.g⟩).h.length h1.inv).inv)
  have h3 := frzAll_tidy (n := n) frz h2.inv
  have h4 := selR_tidy (n := n) h3.inv lv
  exact ((h1.trans h2).trans (h3.trans h4)).trans (canon_tidy h4.inv)
end
inductive CP where
  | i (k : IntKind)
  | b
  | s
  | sl (o : Bool) (t : Ty)
  | nl (o : Bool) (k : Nat)
  | np
  | ref (id : Nat)
  | vp (id j : Nat)
inductive VP where
  | one (c : CP)
  | pk (t : Ty)
inductive BP where
  | var (w : Bool) (l : List CP)
  | pk (w : Bool) (t : Ty)
  | sl (t : Ty)
structure TPl where
  rs : List (Nat × VP)
  bs : List BP
def CP.ty : CP → List Ty
  | .i k => [.int k]
  | .b => [.bool]
  | .s => [.str]
  | .sl _ t => [.sl t]
  | _ => []
def tyCs : List CP → List Ty
  | [] => []
  | c :: r => c.ty ++ tyCs r
def BP.ty : BP → List Ty
  | .var _ l => tyCs l
  | .pk _ t => [t]
  | .sl t => [.sl t]
def tyBs : List BP → List Ty
  | [] => []
  | b :: r => b.ty ++ tyBs r
def VP.ty : VP → List Ty
  | .one c => c.ty
  | .pk t => [t]
def tyRs : List (Nat × VP) → List Ty
  | [] => []
  | (_, v) :: r => v.ty ++ tyRs r
def TPl.ty (T : TPl) : List Ty := tyBs T.bs ++ tyRs T.rs
def exC : CP → TC → Option (List SD)
  | .i k, .c (.i k' n) => match kindB k k' with
    | true => some [⟨.int k, n⟩]
    | false => none
  | .b, .c (.b x) => some [⟨.bool, x⟩]
  | .s, .c (.s x) => some [⟨.str, x⟩]
  | .sl o t, .c x => match ofC1 o t x with
    | some l => some [⟨.sl t, l⟩]
    | none => none
  | .nl o k, .c (.nl o' k') => match o == o', Nat.beq k k' with
    | true, true => some []
    | _, _ => none
  | .np, .c .np => some []
  | _, _ => none
def exCs : List CP → List TC → Option (List SD)
  | [], [] => some []
  | p :: ps, c :: cs => match exC p c, exCs ps cs with
    | some l, some m => some (l ++ m)
    | _, _ => none
  | _, _ => none
def exB : BP → TB → Option (List SD)
  | .var w l, .var w' cs => match w == w' with
    | true => exCs l cs
    | false => none
  | .pk w t, .var w' cs => match w == w', toSC cs with
    | true, some xs => match ofC true t xs with
      | some v => some [⟨t, v⟩]
      | none => none
    | _, _ => none
  | .sl t, tb => match whole t tb with
    | some (_, l) => some [⟨.sl t, l⟩]
    | none => none
  | _, _ => none
def exBs : List BP → List TB → Option (List SD)
  | [], [] => some []
  | p :: ps, b :: bs => match exB p b, exBs ps bs with
    | some l, some m => some (l ++ m)
    | _, _ => none
  | _, _ => none
def exV (h : List TB) : VP → TV → Option (List SD)
  | .one p, .r (.one c) => match p, c with
    | .ref id, .ref id' v n => match vlen (tbAt h id) with
      | some (v', _) => match Nat.beq id id', Nat.beq v v' with
        | true, true => some []
        | _, _ => none
      | none => none
    | .vp id j, .vp id' j' => match Nat.beq id id', Nat.beq j j' with
      | true, true => some []
      | _, _ => none
    | p, c => exC p c
  | .pk t, .r (.agg cs) => match t.agg, toSC cs with
    | true, some xs => match ofC true t xs with
      | some v => some [⟨t, v⟩]
      | none => none
    | _, _ => none
  | _, _ => none
def exRs (h : List TB) (r : List (Nat × TV)) : List (Nat × VP) → Option (List SD)
  | [] => some []
  | (t, p) :: ps => match exV h p (lookT r t), exRs h r ps with
    | some l, some m => some (l ++ m)
    | _, _ => none
def exT (T : TPl) (τ : TSt) : Option (List SD) :=
  match exBs T.bs τ.h, exRs τ.h τ.r T.rs with
  | some l, some m => some (l ++ m)
  | _, _ => none
def fiC : CP → List SD → Option (TC × List SD)
  | .i k, ⟨.int k', n⟩ :: r => match kindB k k' with
    | true => some (.c (.i k n), r)
    | false => none
  | .b, ⟨.bool, x⟩ :: r => some (.c (.b x), r)
  | .s, ⟨.str, x⟩ :: r => some (.c (.s x), r)
  | .sl o t, ⟨.sl u, l⟩ :: r => match asL u t l with
    | some m => some (.c (.sl o t m), r)
    | none => none
  | .nl o k, r => some (.c (.nl o k), r)
  | .np, r => some (.c .np, r)
  | _, _ => none
def fiCs : List CP → List SD → Option (List TC × List SD)
  | [], r => some ([], r)
  | p :: ps, r => match fiC p r with
    | some (c, r) => match fiCs ps r with
      | some (cs, r) => some (c :: cs, r)
      | none => none
    | none => none
def fiB : BP → List SD → Option (TB × List SD)
  | .var w l, r => match fiCs l r with
    | some (cs, r) => some (.var w cs, r)
    | none => none
  | .pk w t, ⟨u, v⟩ :: r => match asD u t v with
    | some x => some (.var w ((cells t x).map .c), r)
    | none => none
  | .sl t, ⟨.sl u, l⟩ :: r => match asL u t l with
    | some m => some (.sl t 0 m, r)
    | none => none
  | _, _ => none
def fiBs : List BP → List SD → Option (List TB × List SD)
  | [], r => some ([], r)
  | p :: ps, r => match fiB p r with
    | some (b, r) => match fiBs ps r with
      | some (bs, r) => some (b :: bs, r)
      | none => none
    | none => none
def fiV (h : List TB) : VP → List SD → Option (TV × List SD)
  | .one p, r => match p with
    | .ref id => match vlen (tbAt h id) with
      | some (_, n) => some (.r (.one (.ref id 0 n)), r)
      | none => none
    | .vp id j => some (.r (.one (.vp id j)), r)
    | p => match fiC p r with
      | some (c, r) => some (.r (.one c), r)
      | none => none
  | .pk t, ⟨u, v⟩ :: r => match asD u t v with
    | some x => some (.r (.agg ((cells t x).map .c)), r)
    | none => none
  | _, _ => none
def fiRs (h : List TB) : List (Nat × VP) → List SD → Option (List (Nat × TV) × List SD)
  | [], r => some ([], r)
  | (t, p) :: ps, r => match fiV h p r with
    | some (v, r) => match fiRs h ps r with
      | some (vs, r) => some ((t, v) :: vs, r)
      | none => none
    | none => none
def fiT (T : TPl) (l : List SD) : Option TSt :=
  match fiBs T.bs l with
  | some (bs, r) => match fiRs bs T.rs r with
    | some (vs, _) => some ⟨vs, bs, 1⟩
    | none => none
  | none => none
section
variable {P : Program} {G : Fr} {τ : TSt} {n : Nat} {r : List SD}
theorem asL_self (t : Ty) (l : List (Den t)) : asL t t l = some l := by
  have key : ∀ t : Ty, ∃ h, Ty.eq t t = some ⟨h⟩ := by
    intro t
    induction t with
    | int k =>
      have hk : kindB k k = true := decide_eq_true rfl
      refine ⟨rfl, ?_⟩
      simp only [Ty.eq]
      split
      · rfl
      · rename_i h; rw [hk] at h; cases h
    | bool => exact ⟨rfl, rfl⟩
    | str => exact ⟨rfl, rfl⟩
    | sl t ih => obtain ⟨h, e⟩ := ih; exact ⟨rfl, by simp only [Ty.eq, e]⟩
    | vw t ih => obtain ⟨h, e⟩ := ih; exact ⟨rfl, by simp only [Ty.eq, e]⟩
    | pr a b ih1 ih2 => obtain ⟨h, e⟩ := ih1; obtain ⟨h', e'⟩ := ih2; exact ⟨rfl, by simp only [Ty.eq, e, e']⟩
  obtain ⟨h, e⟩ := key t
  simp only [asL, e]
theorem asD_self (t : Ty) (x : Den t) : asD t t x = some x := by
  have key : ∀ t : Ty, ∃ h, Ty.eq t t = some ⟨h⟩ := by
    intro t
    induction t with
    | int k =>
      have hk : kindB k k = true := decide_eq_true rfl
      refine ⟨rfl, ?_⟩
      simp only [Ty.eq]
      split
      · rfl
      · rename_i h; rw [hk] at h; cases h
    | bool => exact ⟨rfl, rfl⟩
    | str => exact ⟨rfl, rfl⟩
    | sl t ih => obtain ⟨h, e⟩ := ih; exact ⟨rfl, by simp only [Ty.eq, e]⟩
    | vw t ih => obtain ⟨h, e⟩ := ih; exact ⟨rfl, by simp only [Ty.eq, e]⟩
    | pr a b ih1 ih2 => obtain ⟨h, e⟩ := ih1; obtain ⟨h', e'⟩ := ih2; exact ⟨rfl, by simp only [Ty.eq, e, e']⟩
  obtain ⟨h, e⟩ := key t
  simp only [asD, e]
theorem kindB_self (k : IntKind) : kindB k k = true := decide_eq_true rfl
theorem exC_ok {p : CP} {c : TC} {l : List SD} (h : exC p c = some l) : l.map (·.1) = p.ty ∧ ∃ x : SC, (∀ r, fiC p (l ++ r) = some (.c x, r)) ∧ x.pv = c.pv := by
  unfold exC at h
  split at h
  · rename_i k k' n
    split at h
    · rename_i hk
      injection h with h; subst h
      have := kindB_ok hk; subst this
      exact ⟨rfl, .i k n, fun r => by simp [fiC, kindB_self], rfl⟩
    · cases h
  · injection h with h; subst h; exact ⟨rfl, _, fun r => rfl, rfl⟩
  · injection h with h; subst h; exact ⟨rfl, _, fun r => rfl, rfl⟩
  · rename_i o t x
    split at h
    · rename_i m hm
      injection h with h; subst h
      exact ⟨rfl, .sl o t m, fun r => by simp [fiC, asL_self], (ofC1_ok hm).symm⟩
    · cases h
  · split at h
    · rename_i ho hk
      injection h with h; subst h
      rw [beq_iff_eq] at ho; subst ho
      have := Nat.eq_of_beq_eq_true hk; subst this
      exact ⟨rfl, _, fun r => rfl, rfl⟩
    · cases h
  · injection h with h; subst h; exact ⟨rfl, _, fun r => rfl, rfl⟩
  · cases h
theorem exCs_ok : ∀ {ps : List CP} {cs : List TC} {l : List SD}, exCs ps cs = some l → l.map (·.1) = tyCs ps ∧ ∃ xs : List SC, (∀ r, fiCs ps (l ++ r) = some (xs.map .c, r)) ∧ xs.map SC.pv = cs.map TC.pv
  | [], [], l, h => by injection h with h; subst h; exact ⟨rfl, [], fun r => rfl, rfl⟩
  | p :: ps, c :: cs, l, h => by
    simp only [exCs] at h
    split at h
    · rename_i l1 l2 h1 h2
      injection h with h; subst h
      obtain ⟨e1, x, f1, g1⟩ := exC_ok h1
      obtain ⟨e2, xs, f2, g2⟩ := exCs_ok h2
      refine ⟨by simp [tyCs, e1, e2], x :: xs, fun r => ?_, by simp [g1, g2]⟩
      rw [List.append_assoc]
      simp only [fiCs, f1, f2, List.map_cons]
    · cases h
  | [], _ :: _, l, h => by cases h
  | _ :: _, [], l, h => by cases h
theorem exB_ok {p : BP} {tb : TB} {l : List SD} {h : List TB} {g : Nat} (hb : bok P h g tb) (he : exB p tb = some l) : l.map (·.1) = p.ty ∧ ∃ tb', (∀ r, fiB p (l ++ r) = some (tb', r)) ∧ tb'.slot = tb.slot ∧ (∀ h', bok P h' 1 tb') ∧ vlen tb' = (vlen tb).map (fun z => (0, z.2)) := by
  unfold exB at he
  split at he
  · rename_i w ps w' cs
    split at he
    · rename_i hw
      rw [beq_iff_eq] at hw; subst hw
      obtain ⟨e1, xs, f1, g1⟩ := exCs_ok he
      refine ⟨e1, .var w (xs.map .c), fun r => by simp only [fiB, f1], ?_, fun h' c hc => ?_, rfl⟩
      · have := congrArg List.length g1
        simp at this
        simp only [TB.slot, List.length_map, this, ← g1]
        simp [TC.pv, Function.comp_def]
      · obtain ⟨x, _, rfl⟩ := List.mem_map.1 hc; trivial
    · cases he
  · rename_i w t w' cs
    split at he
    · rename_i xs hw hxs
      rw [beq_iff_eq] at hw; subst hw
      split at he
      · rename_i v hv
        injection he with he; subst he
        have e := toV_ok hxs hv
        refine ⟨rfl, .var w ((cells t v).map .c), fun r => by simp [fiB, asD_self], ?_, fun h' c hc => ?_, rfl⟩
        · have := congrArg List.length e
          simp [enc_len] at this
          simp only [TB.slot, cells_c, e, List.length_map, cells_len, this]
        · obtain ⟨x, _, rfl⟩ := List.mem_map.1 hc; trivial
      · cases he
    · cases he
  · rename_i t
    split at he
    · rename_i v l0 hw
      injection he with he; subst he
      obtain ⟨w1, w2⟩ := whole_ok hb hw
      exact ⟨rfl, .sl t 0 l0, fun r => by simp [fiB, asL_self], by rw [w1]; rfl, fun _ => Nat.one_pos, by rw [w2]; rfl⟩
    · cases he
  · cases he
theorem exBs_ok {h : List TB} {g : Nat} : ∀ {ps : List BP} {bs : List TB} {l : List SD}, (∀ b ∈ bs, bok P h g b) → exBs ps bs = some l → l.map (·.1) = tyBs ps ∧ ∃ bs', (∀ r, fiBs ps (l ++ r) = some (bs', r)) ∧ bs'.map TB.slot = bs.map TB.slot ∧ (∀ b ∈ bs', ∀ h', bok P h' 1 b) ∧ ∀ i, vlen (tbAt bs' i) = (vlen (tbAt bs i)).map (fun z => (0, z.2))
  | [], [], l, hb, he => by injection he with he; subst he; exact ⟨rfl, [], fun r => rfl, rfl, by simp, fun i => by cases i <;> rfl⟩
  | p :: ps, b :: bs, l, hb, he => by
    simp only [exBs] at he
    split at he
    · rename_i l1 l2 h1 h2
      injection he with he; subst he
      obtain ⟨e1, b', f1, g1, k1, v1⟩ := exB_ok (hb b (by simp)) h1
      obtain ⟨e2, bs', f2, g2, k2, v2⟩ := exBs_ok (fun x hx => hb x (by simp [hx])) h2
      refine ⟨by simp [tyBs, e1, e2], b' :: bs', fun r => ?_, by simp [g1, g2], fun x hx => ?_, fun i => ?_⟩
      · rw [List.append_assoc]
        simp only [fiBs, f1, f2]
      · rcases List.mem_cons.1 hx with rfl | hx
        · exact k1
        · exact k2 x hx
      · cases i with
        | zero => exact v1
        | succ i => exact v2 i
    · cases he
  | [], _ :: _, l, hb, he => by cases he
  | _ :: _, [], l, hb, he => by cases he
theorem exV_ok {h h' : List TB} {g : Nat} (hvl : ∀ i, vlen (tbAt h' i) = (vlen (tbAt h i)).map (fun z => (0, z.2))) {p : VP} {v : TV} {l : List SD} (hc : ∀ c ∈ v.cs, cok P h g c) (he : exV h p v = some l) : l.map (·.1) = p.ty ∧ ∃ v', (∀ r, fiV h' p (l ++ r) = some (v', r)) ∧ v'.rv = v.rv ∧ ∀ c ∈ v'.cs, cok P h' 1 c := by
  unfold exV at he
  split at he
  · rename_i p c
    split at he
    · rename_i id id' v n
      split at he
      · rename_i v' k hv
        split at he
        · rename_i e1 e2
          have := Nat.eq_of_beq_eq_true e1; subst this
          have := Nat.eq_of_beq_eq_true e2; subst this
          injection he with he; subst he
          have hck := hc (.ref id v n) (by simp [TV.cs, TR.cs])
          have hn : n = k := hck.2 _ hv
          subst hn
          have h1 : vlen (tbAt h' id) = some (0, n) := by rw [hvl, hv]; rfl
          refine ⟨rfl, .r (.one (.ref id 0 n)), fun r => by simp [fiV, h1], rfl, fun c hc => ?_⟩
          have : c = .ref id 0 n := by simpa [TV.cs, TR.cs] using hc
          subst this
          exact ⟨Nat.one_pos, fun m e => by rw [h1] at e; simp at e; exact e⟩
        · cases he
      · cases he
    · rename_i id j id' j'
      split at he
      · rename_i e1 e2
        have := Nat.eq_of_beq_eq_true e1; subst this
        have := Nat.eq_of_beq_eq_true e2; subst this
        injection he with he; subst he
        refine ⟨rfl, _, fun r => rfl, rfl, fun c hc => ?_⟩
        have : c = .vp id j := by simpa [TV.cs, TR.cs] using hc
        subst this; trivial
      · cases he
    · rename_i h1 h2
      obtain ⟨e1, x, f1, g1⟩ := exC_ok he
      refine ⟨e1, .r (.one (.c x)), fun r => ?_, by simp [TV.rv, TR.r1, TC.pv, g1], fun c' hc' => ?_⟩
      · have := f1 r
        cases p with
        | ref id => cases c <;> simp [exC] at he
        | vp id j => cases c <;> simp [exC] at he
        | _ => simp only [fiV, this]
      · have : c' = .c x := by simpa [TV.cs, TR.cs] using hc'
        subst this; trivial
  · rename_i t cs
    split at he
    · rename_i xs ha hxs
      split at he
      · rename_i v hv
        injection he with he; subst he
        refine ⟨rfl, .r (.agg ((cells t v).map .c)), fun r => by simp [fiV, asD_self], ?_, fun c hc => ?_⟩
        · simp only [TV.rv, TR.r1, cells_c, toV_ok hxs hv]
        · obtain ⟨x, _, rfl⟩ := List.mem_map.1 (show c ∈ (cells t v).map .c from hc); trivial
      · cases he
    · cases he
  · cases he
theorem exRs_ok {h h' : List TB} {g : Nat} (hvl : ∀ i, vlen (tbAt h' i) = (vlen (tbAt h i)).map (fun z => (0, z.2))) {r0 : List (Nat × TV)} (hc : ∀ t, ∀ c ∈ (lookT r0 t).cs, cok P h g c) : ∀ {ps : List (Nat × VP)} {l : List SD}, exRs h r0 ps = some l →
    l.map (·.1) = tyRs ps ∧ ∃ vs, (∀ r, fiRs h' ps (l ++ r) = some (vs, r)) ∧ (∀ e ∈ vs, (lookT r0 e.1).rv = e.2.rv ∧ ∀ c ∈ e.2.cs, cok P h' 1 c) ∧ vs.map (·.1) = ps.map (·.1)
  | [], l, he => by injection he with he; subst he; exact ⟨rfl, [], fun r => rfl, by simp, rfl⟩
  | (t, p) :: ps, l, he => by
    simp only [exRs] at he
    split at he
    · rename_i l1 l2 h1 h2
      injection he with he; subst he
      obtain ⟨e1, v', f1, g1, k1⟩ := exV_ok hvl (hc t) h1
      obtain ⟨e2, vs, f2, g2, k2⟩ := exRs_ok hvl hc h2
      refine ⟨by simp [tyRs, e1, e2], (t, v') :: vs, fun r => ?_, fun e he => ?_, by simp [k2]⟩
      · rw [List.append_assoc]
        simp only [fiRs, f1, f2]
      · rcases List.mem_cons.1 he with rfl | he
        · exact ⟨g1.symm, k1⟩
        · exact g2 e he
    · cases he
theorem exT_ok (hI : Inv P τ) {T : TPl} {l : List SD} (he : exT T τ = some l) : l.map (·.1) = T.ty ∧ ∃ τ', fiT T l = some τ' ∧ Inv P τ' ∧ τ'.h.map TB.slot = τ.h.map TB.slot ∧ (∀ e ∈ τ'.r, (lookT τ.r e.1).rv = e.2.rv) ∧ τ'.r.map (·.1) = T.rs.map (·.1) := by
  unfold exT at he
  split at he
  · rename_i l1 l2 h1 h2
    injection he with he; subst he
    have hbs : ∀ b ∈ τ.h, bok P τ.h τ.g b := by
      intro b hb
      obtain ⟨j, hj⟩ := List.getElem?_of_mem hb
      have := hI.blks j
      rw [tbAt_get, hj] at this
      exact this
    have hlk : ∀ t, ∀ c ∈ (lookT τ.r t).cs, cok P τ.h τ.g c := by
      intro t c hc
      rcases lookT_mem τ.r t with k | ⟨z, hz, k1, k2⟩
      · rw [k] at hc; simp [TV.cs] at hc
      · rw [k2] at hc; exact hI.regs z hz c hc
    obtain ⟨e1, bs', f1, g1, k1, v1⟩ := exBs_ok hbs h1
    obtain ⟨e2, vs, f2, g2, k2⟩ := exRs_ok v1 hlk h2
    refine ⟨by simp [TPl.ty, e1, e2], ⟨vs, bs', 1⟩, ?_, ⟨fun e he c hc => (g2 e he).2 c hc, fun i => ?_⟩, g1, fun e he => (g2 e he).1, k2⟩
    · have := f2 []
      rw [List.append_nil] at this
      simp only [fiT, f1, this]
    · show bok P bs' 1 (tbAt bs' i)
      rw [tbAt_get]
      cases hi : bs'[i]? with
      | none => trivial
      | some b => exact k1 b (List.mem_of_getElem? hi) _
  · cases he
end
end Go.Proofs.YtfhkpnnbklojoaaGreatA.AS
