/-
  Plain law, no Go in sight: what Cycle answers is a cycle from its least task on; if there is none, whoever waits comes to one who does not. Conditions: as each theorem says.
-/
import Derived.Test.YtgmjfmajdnoogaaLkK
namespace Go.Proofs.Ytgmjfmajdnoogaa

def it (f : Int → Int) : Nat → Int → Int
  | 0, a => a
  | k + 1, a => it f k (f a)

theorem it_add (f : Int → Int) : ∀ (i j : Nat) (a : Int), it f (i + j) a = it f j (it f i a)
  | 0, j, a => by simp [it]
  | i + 1, j, a => by rw [show i + 1 + j = (i + j) + 1 from by omega]; exact it_add f i j (f a)
theorem it_succ (f : Int → Int) (k : Nat) (a : Int) : it f (k + 1) a = f (it f k a) := it_add f k 1 a
theorem it_zero {f : Int → Int} (h : f 0 = 0) : ∀ k, it f k 0 = 0
  | 0 => rfl
  | k + 1 => by rw [it, h]; exact it_zero h k

/-- What 'chase' finds. -/
theorem chase_some {f : Int → Int} {N : Nat} {a : Int} : ∀ {g : Nat} {t : Int} {out r : List Int}, chase f N a g t out = some r →
    ∃ p, p < g ∧ it f p t = a ∧ (∀ i, i < p → it f i t ≠ a ∧ it f i t ≠ 0) ∧ r = out ++ (List.range p).map (fun i => it f i t)
  | 0, _, _, _, h => by simp [chase] at h
  | g + 1, t, out, r, h => by
    rw [chase] at h
    split at h
    · rename_i h0
      injection h with h
      exact ⟨0, by omega, h0, fun i hi => by omega, by simp [h]⟩
    · rename_i h0
      split at h
      · cases h
      · rename_i h1
        obtain ⟨p, hp, e, hn, hr⟩ := chase_some h
        refine ⟨p + 1, by omega, e, fun i hi => ?_, ?_⟩
        · cases i with
          | zero => exact ⟨h0, fun e => h1 (.inl e)⟩
          | succ i => exact hn i (by omega)
        · rw [hr, List.range_succ_eq_map, List.map_cons, List.append_assoc, List.singleton_append, List.map_map]
          rfl
theorem chase_of {f : Int → Int} {N : Nat} {a : Int} : ∀ {g p : Nat} {t : Int} {out : List Int}, p < g → it f p t = a → (∀ i, i < p → it f i t ≠ 0 ∧ out.length + i ≤ N) → ∃ r, chase f N a g t out = some r
  | 0, p, _, _, h, _, _ => by omega
  | g + 1, p, t, out, hp, e, hn => by
    rw [chase]
    split
    · exact ⟨_, rfl⟩
    · rename_i h0
      cases p with
      | zero => exact absurd e h0
      | succ p =>
        obtain ⟨h1, h2⟩ := hn 0 (by omega)
        rw [if_neg (by intro h; rcases h with h | h; exact h1 h; omega)]
        exact chase_of (p := p) (by omega) e fun i hi => by
          have := hn (i + 1) (by omega)
          exact ⟨this.1, by rw [List.length_append, List.length_singleton]; omega⟩

/-- More values than places: two are one. -/
theorem pigeon : ∀ (n : Nat) (l : List Int) (g : Nat → Int), l.length = n → (∀ i, i ≤ n → g i ∈ l) → ∃ i j, i < j ∧ j ≤ n ∧ g i = g j
  | 0, l, g, hl, h => by
    have := List.eq_nil_of_length_eq_zero hl
    subst this
    exact absurd (h 0 (Nat.le_refl _)) (by simp)
  | n + 1, l, g, hl, h => by
    by_cases hx : ∃ i, i < n + 1 ∧ g i = g (n + 1)
    · obtain ⟨i, hi, e⟩ := hx
      exact ⟨i, n + 1, hi, Nat.le_refl _, e⟩
    · obtain ⟨i, j, h1, h2, h3⟩ := pigeon n (l.erase (g (n + 1))) g (by rw [List.length_erase_of_mem (h _ (Nat.le_refl _)), hl]; rfl) fun i hi =>
        (List.mem_erase_of_ne (fun e => hx ⟨i, by omega, e⟩)).2 (h i (by omega))
      exact ⟨i, j, h1, by omega, h3⟩

/-- The least step at which something holds. -/
theorem least {p : Nat → Prop} [DecidablePred p] : ∀ (n : Nat), p n → ∃ m, m ≤ n ∧ p m ∧ ∀ i, i < m → ¬ p i
  | 0, h => ⟨0, Nat.le_refl _, h, fun i hi => by omega⟩
  | n + 1, h => by
    by_cases hx : ∃ i, i ≤ n ∧ p i
    · obtain ⟨i, hi, hpi⟩ := hx
      have key : ∀ n, (∃ i, i ≤ n ∧ p i) → ∃ m, m ≤ n ∧ p m ∧ ∀ i, i < m → ¬ p i := by
        intro n
        induction n with
        | zero => rintro ⟨i, hi, h⟩; exact ⟨i, hi, h, fun j hj => by omega⟩
        | succ n ih =>
          rintro ⟨i, hi, h⟩
          by_cases hy : ∃ i, i ≤ n ∧ p i
          · obtain ⟨m, h1, h2, h3⟩ := ih hy
            exact ⟨m, by omega, h2, h3⟩
          · exact ⟨i, hi, h, fun j hj hpj => hy ⟨j, by omega, hpj⟩⟩
      obtain ⟨m, h1, h2, h3⟩ := key n ⟨i, hi, hpi⟩
      exact ⟨m, by omega, h2, h3⟩
    · exact ⟨n + 1, Nat.le_refl _, h, fun i hi hpi => hx ⟨i, by omega, hpi⟩⟩

/-- A task that comes back to itself is found. -/
theorem chaseW_of {f : Int → Int} (f0 : f 0 = 0) {N q : Nat} {x : Wt} (hx : x.task ≠ 0) (h1 : 1 ≤ q) (hq : q ≤ N + 1) (e : it f q x.task = x.task) : ∃ r, chaseW f N x = some r := by
  obtain ⟨q, rfl⟩ : ∃ k, q = k + 1 := ⟨q - 1, by omega⟩
  refine chase_of (p := q) (by omega) e fun i hi => ⟨fun h0 => ?_, by rw [List.length_singleton]; omega⟩
  have h2 : it f (i + 1) x.task = 0 := h0
  have h3 : it f (i + 1 + (q - i)) x.task = 0 := by rw [it_add, h2, it_zero f0]
  rw [show i + 1 + (q - i) = q + 1 from by omega, e] at h3
  exact hx h3

/-- What is found: the task, and whoever comes from it till it comes again. -/
theorem chaseW_some {f : Int → Int} {N : Nat} {x : Wt} {r : List Int} (h : chaseW f N x = some r) :
    ∃ P, 1 ≤ P ∧ it f P x.task = x.task ∧ (∀ i, 1 ≤ i → i < P → it f i x.task ≠ x.task ∧ it f i x.task ≠ 0) ∧ r = (List.range P).map (fun i => it f i x.task) := by
  obtain ⟨p, _, e, hn, hr⟩ := chase_some h
  refine ⟨p + 1, by omega, e, fun i hi hip => ?_, ?_⟩
  · obtain ⟨k, rfl⟩ : ∃ k, i = k + 1 := ⟨i - 1, by omega⟩
    exact hn k (by omega)
  · rw [hr, List.range_succ_eq_map, List.map_cons, List.map_map]
    rfl
end Go.Proofs.Ytgmjfmajdnoogaa
