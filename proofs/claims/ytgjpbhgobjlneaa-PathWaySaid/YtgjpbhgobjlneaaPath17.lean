/- Plain law of the search, no program in sight: taken in ascending order, what is met first has the least way. Conditions: none. -/
import Derived.Test.YtgjpbhgobjlneaaPath14
namespace Go.Proofs.Ytgjpbhgobjlneaa
open Go.RowKit Go.Sort
/-- Lists of one length, told apart by what is nearest to their end. -/
def leE : List Int → List Int → Prop
  | [], [] => True
  | a :: x, b :: y => (x ≠ y ∧ leE x y) ∨ (x = y ∧ a ≤ b)
  | _, _ => False
theorem leE_refl : ∀ x, leE x x
  | [] => trivial
  | a :: x => .inr ⟨rfl, Int.le_refl a⟩
theorem leE_anti : ∀ {x y : List Int}, leE x y → leE y x → x = y
  | [], [], _, _ => rfl
  | a :: x, b :: y, h1, h2 => by
    rcases h1 with ⟨n1, h1⟩ | ⟨e1, h1⟩
    · rcases h2 with ⟨_, h2⟩ | ⟨e2, _⟩
      · exact absurd (leE_anti h1 h2) n1
      · exact absurd e2.symm n1
    · subst e1
      rcases h2 with ⟨n2, _⟩ | ⟨_, h2⟩
      · exact absurd rfl n2
      · rw [Int.le_antisymm h1 h2]
  | [], _ :: _, h, _ => h.elim
  | _ :: _, [], h, _ => h.elim
theorem leE_trans : ∀ {x y z : List Int}, leE x y → leE y z → leE x z
  | [], [], [], _, _ => trivial
  | a :: x, b :: y, c :: z, h1, h2 => by
    rcases h1 with ⟨n1, h1⟩ | ⟨e1, h1⟩
    · rcases h2 with ⟨n2, h2⟩ | ⟨e2, h2⟩
      · exact .inl ⟨fun e => by subst e; exact n1 (leE_anti h1 h2), leE_trans h1 h2⟩
      · subst e2; exact .inl ⟨n1, h1⟩
    · subst e1
      rcases h2 with ⟨n2, h2⟩ | ⟨e2, h2⟩
      · exact .inl ⟨n2, h2⟩
      · subst e2; exact .inr ⟨rfl, by omega⟩
  | [], _ :: _, _, h, _ => h.elim
  | _ :: _, [], _, h, _ => h.elim
  | [], [], _ :: _, _, h => h.elim
  | _ :: _, _ :: _, [], _, h => h.elim
/-- Shorter, or as long and before. -/
def Sle (x y : List Int) : Prop := x.length < y.length ∨ (x.length = y.length ∧ leE x y)
theorem Sle.refl (x : List Int) : Sle x x := .inr ⟨rfl, leE_refl x⟩
theorem Sle.trans {x y z : List Int} (h1 : Sle x y) (h2 : Sle y z) : Sle x z := by
  rcases h1 with h1 | ⟨e1, h1⟩
  · rcases h2 with h2 | ⟨e2, _⟩
    · exact .inl (by omega)
    · exact .inl (by omega)
  · rcases h2 with h2 | ⟨e2, h2⟩
    · exact .inl (by omega)
    · exact .inr ⟨by omega, leE_trans h1 h2⟩
theorem Sle.cons {a b : Int} {x y : List Int} (h : Sle x y) (hab : x = y → a ≤ b) : Sle (a :: x) (b :: y) := by
  rcases h with h | ⟨e, h⟩
  · exact .inl (by simp; omega)
  · refine .inr ⟨by simp [e], ?_⟩
    by_cases hxy : x = y
    · exact .inr ⟨hxy, hab hxy⟩
    · exact .inl ⟨hxy, h⟩
/-- An entry's rank: by the how-many-eth it was met. -/
def Rk (st : List (Int × Int)) (p : Int × Int) (r : Nat) : Prop := (r = 0 ∧ p.2 = p.1) ∨ ∃ (m : Nat) (q : Int × Int), r = m + 1 ∧ st[m]? = some q ∧ q.1 = p.2 ∧ p.2 ≠ p.1
theorem Rk.append {st : List (Int × Int)} {p : Int × Int} {r : Nat} (h : Rk st p r) (t : List (Int × Int)) : Rk (st ++ t) p r := by
  rcases h with h | ⟨m, q, h1, h2, h3⟩
  · exact .inl h
  · refine .inr ⟨m, q, h1, ?_, h3⟩
    rw [List.getElem?_append_left (List.getElem?_eq_some_iff.1 h2).1]; exact h2
def Srt (st : List (Int × Int)) : Prop := ∀ (j j' : Nat) (p p' : Int × Int), j < j' → st[j]? = some p → st[j']? = some p' → ∃ r r', Rk st p r ∧ Rk st p' r' ∧ (r < r' ∨ (r = r' ∧ p.1 < p'.1))
def Bnd (st : List (Int × Int)) (i : Nat) : Prop := ∀ p ∈ st, ∃ r, Rk st p r ∧ r ≤ i
def Cls (l : List Cl) (ar : Int) (nx : Int → List Int) (st : List (Int × Int)) (i : Nat) : Prop := ∀ (m : Nat) (q : Int × Int) (v : Int), m < i → st[m]? = some q → v ∈ nx q.1 → fitL l ar v = true → ∃ p ∈ st, p.1 = v ∧ ∃ r, Rk st p r ∧ r ≤ m + 1
theorem pair_at {α : Type} {R : α → α → Prop} {xs : List α} (h : xs.Pairwise R) {i j : Nat} {a b : α} (hij : i < j) (ha : xs[i]? = some a) (hb : xs[j]? = some b) : R a b := by
  obtain ⟨h1, rfl⟩ := List.getElem?_eq_some_iff.1 ha
  obtain ⟨h2, rfl⟩ := List.getElem?_eq_some_iff.1 hb
  exact List.pairwise_iff_getElem.1 h i j h1 h2 hij
theorem newsL_asc (l : List Cl) (ar : Int) {xs : List Int} (h : xs.Pairwise (· ≤ ·)) (st : List (Int × Int)) : (newsL l ar st xs).Pairwise (· < ·) :=
  asc_of (h.sublist (newsL_sub l ar xs st)) (newsL_nodup l ar xs st)
section
variable {l : List Cl} {ar : Int} {nx : Int → List Int} (hnx : ∀ x, (nx x).Pairwise (· ≤ ·))
include hnx
theorem ord_step {st : List (Int × Int)} {i : Nat} {q : Int × Int} (hq : st[i]? = some q) (hs : Srt st) (hb : Bnd st i) (hc : Cls l ar nx st i) :
    Srt (stepL l ar (nx q.1) st q.1) ∧ Bnd (stepL l ar (nx q.1) st q.1) (i + 1) ∧ Cls l ar nx (stepL l ar (nx q.1) st q.1) (i + 1) := by
  have hasc := newsL_asc l ar (hnx q.1) st
  have hse : ∀ v, seen (stepL l ar (nx q.1) st q.1) v = true ↔ seen st v = true ∨ (v ∈ nx q.1 ∧ fitL l ar v = true) := fun v => seen_step
  have hmem := newsL_mem l ar (nx q.1) st
  rw [stepL_news] at hse ⊢
  have hil := (List.getElem?_eq_some_iff.1 hq).1
  have hnew : ∀ a, a ∈ newsL l ar st (nx q.1) → Rk (st ++ (newsL l ar st (nx q.1)).map fun a => (a, q.1)) (a, q.1) (i + 1) := fun a ha => by
    refine .inr ⟨i, q, rfl, by rw [List.getElem?_append_left hil]; exact hq, rfl, fun e => ?_⟩
    have h1 := ((hmem a).1 ha).2.1
    have e : q.1 = a := e
    rw [← e, seen_mem (List.mem_of_getElem? hq)] at h1
    cases h1
  have hbnd : Bnd (st ++ (newsL l ar st (nx q.1)).map fun a => (a, q.1)) (i + 1) := fun p hp => by
    rcases List.mem_append.1 hp with hp | hp
    · obtain ⟨r, h1, h2⟩ := hb p hp
      exact ⟨r, h1.append _, by omega⟩
    · obtain ⟨a, ha, rfl⟩ := List.mem_map.1 hp
      exact ⟨i + 1, hnew a ha, Nat.le_refl _⟩
  refine ⟨fun j j' p p' hjj hj hj' => ?_, hbnd, fun m u v hm hu hv hf => ?_⟩
  · by_cases h' : j' < st.length
    · rw [List.getElem?_append_left (by omega)] at hj hj'
      obtain ⟨r, r', h1, h2, h3⟩ := hs j j' p p' hjj hj hj'
      exact ⟨r, r', h1.append _, h2.append _, h3⟩
    · rw [List.getElem?_append_right (by omega), List.getElem?_map] at hj'
      obtain ⟨a', ha', rfl⟩ := Option.map_eq_some_iff.1 hj'
      by_cases h : j < st.length
      · rw [List.getElem?_append_left h] at hj
        obtain ⟨r, h1, h2⟩ := hb p (List.mem_of_getElem? hj)
        exact ⟨r, i + 1, h1.append _, hnew a' (List.mem_of_getElem? ha'), .inl (by omega)⟩
      · rw [List.getElem?_append_right (by omega), List.getElem?_map] at hj
        obtain ⟨a, ha, rfl⟩ := Option.map_eq_some_iff.1 hj
        exact ⟨i + 1, i + 1, hnew a (List.mem_of_getElem? ha), hnew a' (List.mem_of_getElem? ha'), .inr ⟨rfl, pair_at hasc (by omega) ha ha'⟩⟩
  · by_cases hmi : m = i
    · subst hmi
      rw [List.getElem?_append_left hil, hq] at hu
      injection hu with hu
      subst hu
      obtain ⟨p, hp, e⟩ := mem_seen ((hse v).2 (.inr ⟨hv, hf⟩))
      obtain ⟨r, h1, h2⟩ := hbnd p hp
      exact ⟨p, hp, e, r, h1, h2⟩
    · rw [List.getElem?_append_left (by omega)] at hu
      obtain ⟨p, hp, e, r, h1, h2⟩ := hc m u v (by omega) hu hv hf
      exact ⟨p, List.mem_append_left _ hp, e, r, h1.append _, h2⟩
theorem ord_bfs : ∀ (f i : Nat) (st : List (Int × Int)), Neat l ar st → Srt st → Bnd st i → Cls l ar nx st i → l.length + 1 ≤ f + i →
    Srt (bfsL l ar nx f i st) ∧ Cls l ar nx (bfsL l ar nx f i st) (bfsL l ar nx f i st).length
  | 0, i, st, hne, hs, _, hc, hf => by
    have := hne.len
    exact ⟨hs, fun m q v hm hq => hc m q v (by rw [bfsL] at hm; omega) hq⟩
  | f + 1, i, st, hne, hs, hb, hc, hf => by
    rw [bfsL]
    cases hp : st[i]? with
    | none =>
      have := List.getElem?_eq_none_iff.1 hp
      exact ⟨hs, fun m q v hm hq => hc m q v (by dsimp only at hm; omega) hq⟩
    | some p =>
      obtain ⟨h1, h2, h3⟩ := ord_step hnx hp hs hb hc
      exact ord_bfs f (i + 1) _ (hne.step _ _) h1 h2 h3 (by omega)
theorem ord_spread (frm : List Int) (hfr : frm.Pairwise (· ≤ ·)) : Srt (spreadL l frm ar nx) ∧ Cls l ar nx (spreadL l frm ar nx) (spreadL l frm ar nx).length := by
  have hz : ∀ (j : Nat) (p : Int × Int), (startL l ar frm)[j]? = some p → ∃ a, (newsL l ar [] frm)[j]? = some a ∧ p = (a, a) := fun j p hp => by
    rw [startL_news, List.getElem?_map] at hp
    obtain ⟨a, ha, rfl⟩ := Option.map_eq_some_iff.1 hp
    exact ⟨a, ha, rfl⟩
  refine ord_bfs hnx _ _ _ (Neat.start l ar frm) (fun j j' p p' hjj hj hj' => ?_) (fun p hp => ?_) (fun m q v hm => by omega) (by omega)
  · obtain ⟨a, ha, rfl⟩ := hz j p hj
    obtain ⟨b, hb, rfl⟩ := hz j' p' hj'
    exact ⟨0, 0, .inl ⟨rfl, rfl⟩, .inl ⟨rfl, rfl⟩, .inr ⟨rfl, pair_at (newsL_asc l ar hfr []) hjj ha hb⟩⟩
  · obtain ⟨j, hj⟩ := List.mem_iff_getElem?.1 hp
    obtain ⟨a, ha, rfl⟩ := hz j p hj
    exact ⟨0, .inl ⟨rfl, rfl⟩, Nat.le_refl _⟩
end
theorem key_inj {l : List Cl} {ar : Int} {st : List (Int × Int)} (h : Neat l ar st) {i j : Nat} {p q : Int × Int} (hi : st[i]? = some p) (hj : st[j]? = some q) (e : p.1 = q.1) : i = j := by
  have h1 : (st.map (·.1))[i]? = some p.1 := by rw [List.getElem?_map, hi]; rfl
  have h2 : (st.map (·.1))[j]? = some p.1 := by rw [List.getElem?_map, hj, e]; rfl
  obtain ⟨a1, b1⟩ := List.getElem?_eq_some_iff.1 h1
  obtain ⟨a2, b2⟩ := List.getElem?_eq_some_iff.1 h2
  exact (List.getElem_inj h.1).1 (b1.trans b2.symm)
/-- What is met first has the least way. -/
theorem climb_sle {l : List Cl} {ar : Int} {st : List (Int × Int)} (hn : Neat l ar st) (hb : ByIn st) (hs : Srt st) : ∀ (j' j : Nat) (p p' : Int × Int), j ≤ j' → st[j]? = some p → st[j']? = some p' → Sle (climbL st st.length p.1) (climbL st st.length p'.1) := by
  intro j'
  induction j' using Nat.strongRecOn with
  | ind j' ih =>
    intro j p p' hjj hj hj'
    by_cases e : j = j'
    · subst e; rw [hj] at hj'; injection hj' with hj'; subst hj'; exact Sle.refl _
    · obtain ⟨r, r', h1, h2, h3⟩ := hs j j' p p' (by omega) hj hj'
      rcases h2 with ⟨rfl, h2⟩ | ⟨m', q', rfl, hq', e', n'⟩
      · rcases h1 with ⟨rfl, h1⟩ | ⟨m, q, rfl, _, _, _⟩
        · rw [climb_stop hn hj h1, climb_stop hn hj' h2]
          refine Sle.cons (Sle.refl []) fun _ => ?_
          rcases h3 with h3 | ⟨_, h3⟩ <;> omega
        · rcases h3 with h3 | ⟨h3, _⟩ <;> omega
      · obtain ⟨i', u', hi', hu', eu', hcl'⟩ := climb_on hn hb hj' n'
        have hui : i' = m' := key_inj hn hu' hq' (by rw [eu', e'])
        subst hui
        rw [hu'] at hq'
        injection hq' with hq'
        subst hq'
        rcases h1 with ⟨rfl, h1⟩ | ⟨m, q, rfl, hq, e1, n1⟩
        · rw [climb_stop hn hj h1, hcl']
          obtain ⟨rr, hr⟩ := climb_head st st.length u'.1
          rw [hr]
          exact .inl (by simp)
        · obtain ⟨i, u, hi, hu, eu, hcl⟩ := climb_on hn hb hj n1
          have hui : i = m := key_inj hn hu hq (by rw [eu, e1])
          subst hui
          rw [hcl, hcl']
          have hle : i ≤ i' := by rcases h3 with h3 | ⟨h3, _⟩ <;> omega
          refine Sle.cons (ih i' hi' i u u' hle hu hu') fun hh => ?_
          obtain ⟨r1, hr1⟩ := climb_head st st.length u.1
          obtain ⟨r2, hr2⟩ := climb_head st st.length u'.1
          rw [hr1, hr2] at hh
          injection hh with hh _
          have : i = i' := key_inj hn hu hu' hh
          rcases h3 with h3 | ⟨_, h3⟩ <;> omega
/-- A way from an object up to one from which one starts. -/
def UpP (l : List Cl) (frm : List Int) (ar : Int) : List Int → Prop
  | [] => False
  | [a] => a ∈ frm ∧ fitL l ar a = true
  | a :: b :: r => fitL l ar a = true ∧ a ∈ namesL l b ∧ UpP l frm ar (b :: r)
theorem bfs_prefix (l : List Cl) (ar : Int) (nx : Int → List Int) : ∀ (f i : Nat) (st : List (Int × Int)), ∃ t, bfsL l ar nx f i st = st ++ t
  | 0, _, st => ⟨[], by rw [bfsL, List.append_nil]⟩
  | f + 1, i, st => by
    rw [bfsL]
    cases hp : st[i]? with
    | none => exact ⟨[], by simp⟩
    | some p =>
      obtain ⟨t, ht⟩ := bfs_prefix l ar nx f (i + 1) (stepL l ar (nx p.1) st p.1)
      rw [stepL_news, List.append_assoc] at ht
      dsimp only
      rw [stepL_news, ht]
      exact ⟨_, rfl⟩
/-- The search's way is the least of all. -/
theorem climb_least (l : List Cl) (ar : Int) : ∀ (q : List Int) (v : Int) (r : List Int), q = v :: r → UpP l (rootsL l) ar q →
    ∃ (j : Nat) (p : Int × Int), (spreadL l (rootsL l) ar (sNamesL l))[j]? = some p ∧ p.1 = v ∧ Sle (climbL (spreadL l (rootsL l) ar (sNamesL l)) (spreadL l (rootsL l) ar (sNamesL l)).length v) q := by
  have hne := Neat.spread l (rootsL l) ar (sNamesL l)
  have hby := ByIn.spread l (rootsL l) ar (sNamesL l)
  obtain ⟨hs, hc⟩ := ord_spread (l := l) (ar := ar) (nx := sNamesL l) (fun x => sortL_sorted _) (rootsL l) ((rootsTo_sorted l 0).imp fun h => Int.le_of_lt h)
  have hst : ∀ v, v ∈ rootsL l → fitL l ar v = true → (v, v) ∈ spreadL l (rootsL l) ar (sNamesL l) := fun v h1 h2 => by
    obtain ⟨t, ht⟩ := bfs_prefix l ar (sNamesL l) (l.length + 1) 0 (startL l ar (rootsL l))
    unfold spreadL
    rw [ht, startL_news]
    exact List.mem_append_left _ (List.mem_map.2 ⟨v, (newsL_mem _ _ _ _ _).2 ⟨h1, rfl, h2⟩, rfl⟩)
  generalize hsp : spreadL l (rootsL l) ar (sNamesL l) = st at hne hby hs hc hst ⊢
  intro q
  induction q with
  | nil => intro v r e; cases e
  | cons a q ih =>
    intro v r e hu
    injection e with e1 e2
    subst e1 e2
    cases q with
    | nil =>
      obtain ⟨j, hj⟩ := List.mem_iff_getElem?.1 (hst a hu.1 hu.2)
      have := climb_stop hne hj rfl st.length
      exact ⟨j, (a, a), hj, rfl, by dsimp only at this; rw [this]; exact Sle.refl _⟩
    | cons b q =>
      obtain ⟨hf, hnm, hup⟩ := hu
      obtain ⟨m, u, hm, rfl, hle⟩ := ih b q rfl hup
      obtain ⟨p, hp, rfl, rk, h1, h2⟩ := hc m u a (List.getElem?_eq_some_iff.1 hm).1 hm (sortL_mem.2 hnm) hf
      obtain ⟨j, hj⟩ := List.mem_iff_getElem?.1 hp
      refine ⟨j, p, hj, rfl, ?_⟩
      rcases h1 with ⟨_, h1⟩ | ⟨m', q', rfl, hq', e', n'⟩
      · rw [climb_stop hne hj h1]; exact .inl (by simp)
      · obtain ⟨i', u', hi', hu', eu', hcl'⟩ := climb_on hne hby hj n'
        have hui : i' = m' := key_inj hne hu' hq' (by rw [eu', e'])
        subst hui
        rw [hcl']
        exact Sle.cons ((climb_sle hne hby hs m i' u' u (by omega) hu' hm).trans hle) fun _ => Int.le_refl _
end Go.Proofs.Ytgjpbhgobjlneaa
