/- Plain law, no program in sight: the tokens of the text of any text's tokens are the same; each token stands where it says, and what lies between them is skipped. -/
import Derived.Test.YtnindeoemfgkeaaRRRRDoorTell2
namespace Go.Proofs.YtnindeoemfgkeaaRRRRDoor
/-- These tokens are what a text has from a place on. -/
inductive Seg (L : List UInt8) : Nat → List Tok → Prop
  | last (a : Nat) (ha : a ≤ L.length) (h : a + sk false (L.drop a) = L.length) : Seg L a [⟨0, [], (L.length : Nat)⟩]
  | more (a k : Nat) (tx : List UInt8) (p : Nat) (l : List Tok) (ha : a ≤ L.length) (hp : p = a + sk false (L.drop a)) (ho : oneL (L.drop p) = (k, tx)) (hk : k ≠ 0) (hb : badT (k, tx) = false) (hl : Seg L (p + tx.length) l) : Seg L a (⟨k, tx, (p : Nat)⟩ :: l)
theorem drop_ne {L : List UInt8} {p : Nat} (h : L.drop p ≠ []) : p < L.length := by
  rcases Nat.lt_or_ge p L.length with h1 | h1
  · exact h1
  · exact absurd (List.drop_eq_nil_of_le h1) h
theorem tokF_seg (L : List UInt8) : ∀ (f a : Nat) (acc : List Tok), a ≤ L.length → L.length - a < f →
    (∃ l, tokF f (a + sk false (L.drop a)) (L.drop (a + sk false (L.drop a))) acc = (acc ++ l, 0, 0) ∧ Seg L a l) ∨
    (∃ e p : Nat, tokF f (a + sk false (L.drop a)) (L.drop (a + sk false (L.drop a))) acc = ([], e, p) ∧ (e = 1 ∨ e = 2) ∧ p < L.length)
  | 0, _, _, _, h => by omega
  | f + 1, a, acc, ha, hf => by
    have hsk := sk_le (L.drop a) false
    rw [List.length_drop] at hsk
    rw [tokF]
    obtain ⟨p, hp⟩ : ∃ p, p = a + sk false (L.drop a) := ⟨_, rfl⟩
    rw [← hp]
    by_cases h1 : L.drop p = []
    · rw [if_pos h1]
      have : L.length ≤ p := List.drop_eq_nil_iff.1 h1
      have hpl : p = L.length := by omega
      refine .inl ⟨[⟨0, [], (p : Nat)⟩], rfl, ?_⟩
      rw [hpl]
      exact .last a ha (by omega)
    · rw [if_neg h1]
      have hlt := drop_ne h1
      by_cases h2 : (oneL (L.drop p)).1 = 0
      · rw [if_pos h2]; exact .inr ⟨1, p, rfl, .inl rfl, hlt⟩
      · rw [if_neg h2]
        cases h3 : badT (oneL (L.drop p))
        · have hpos := oneL_pos _ h2
          have hle := oneL_le (L.drop p)
          rw [List.length_drop] at hle
          simp only [Bool.false_eq_true, if_false, List.drop_drop]
          rcases tokF_seg L f (p + (oneL (L.drop p)).2.length) (acc ++ [⟨(oneL (L.drop p)).1, (oneL (L.drop p)).2, (p : Nat)⟩]) (by omega) (by omega) with ⟨l, hl, hs⟩ | h
          · refine .inl ⟨⟨(oneL (L.drop p)).1, (oneL (L.drop p)).2, (p : Nat)⟩ :: l, by rw [hl]; simp, .more a _ _ p l ha hp rfl h2 h3 hs⟩
          · exact .inr h
        · exact .inr ⟨2, p, by simp, .inr rfl, hlt⟩
theorem seg_tokF {L : List UInt8} {a : Nat} {l : List Tok} (h : Seg L a l) : ∀ (f : Nat) (acc : List Tok), L.length - a < f → tokF f (a + sk false (L.drop a)) (L.drop (a + sk false (L.drop a))) acc = (acc ++ l, 0, 0) := by
  induction h with
  | last a ha h =>
    intro f acc hf
    obtain ⟨f, rfl⟩ : ∃ g, f = g + 1 := ⟨f - 1, by omega⟩
    rw [tokF, h, List.drop_eq_nil_of_le (Nat.le_refl _), if_pos rfl]
  | more a k tx p l ha hp ho hk hb hl ih =>
    intro f acc hf
    obtain ⟨f, rfl⟩ : ∃ g, f = g + 1 := ⟨f - 1, by omega⟩
    have hpos := oneL_pos (L.drop p) (by rw [ho]; exact hk)
    rw [ho] at hpos
    have hne : L.drop p ≠ [] := by intro e; rw [e] at ho; simp [oneL] at ho; omega
    have hlt := drop_ne hne
    dsimp only at hpos
    rw [← hp, tokF, if_neg hne, ho, if_neg hk, hb]
    simp only [Bool.false_eq_true, if_false, List.drop_drop]
    rw [ih f _ (by omega)]
    simp
theorem tokOf_seg (L : List UInt8) (h : L.length ≤ 16384) : (∃ l, tokOf L = (l, 0, 0) ∧ Seg L 0 l) ∨ (∃ e p : Nat, tokOf L = ([], e, p) ∧ (e = 1 ∨ e = 2) ∧ p < L.length) := by
  have := tokF_seg L (L.length + 1) 0 [] (Nat.zero_le _) (by omega)
  unfold tokOf
  rw [if_neg (by omega)]
  simpa using this
theorem seg_tokOf {L : List UInt8} {l : List Tok} (hL : L.length ≤ 16384) (h : Seg L 0 l) : tokOf L = (l, 0, 0) := by
  have := seg_tokF h (L.length + 1) [] (by omega)
  unfold tokOf
  rw [if_neg (by omega)]
  simpa using this
/-! What a token's text is, whatever stands behind it, if that is a blank. -/
def Blk (X : List UInt8) : Prop := X = [] ∨ ∃ r, X = 32 :: r
theorem twl_cut (p : UInt8 → Bool) (hp : p 32 = false) : ∀ (l X : List UInt8), Blk X → twl p (l.take (twl p l) ++ X) = twl p l
  | [], X, h => by
    rcases h with rfl | ⟨r, rfl⟩
    · rfl
    · simp [twl, hp]
  | c :: r, X, h => by
    cases hc : p c
    · rw [twl_no hc]
      rcases h with rfl | ⟨r, rfl⟩
      · rfl
      · simp [twl, hp]
    · rw [twl_yes hc, Nat.add_comm 1, List.take_succ_cons, List.cons_append, twl_yes hc, twl_cut p hp r X h]; omega
theorem oneL_cut {L : List UInt8} {k : Nat} {tx X : List UInt8} (h : oneL L = (k, tx)) (hk : k ≠ 0) (hX : Blk X) : oneL (tx ++ X) = (k, tx) := by
  cases L with
  | nil => simp [oneL] at h; omega
  | cons c r =>
    cases hc : letterI c.toNat
    · cases hd : digitI c.toNat
      · by_cases hs : signL (c :: r) = []
        · rw [oneL_none hc hd hs] at h; simp at h; omega
        · rw [oneL_sign hc hd hs] at h
          simp only [Prod.mk.injEq] at h
          obtain ⟨rfl, rfl⟩ := h
          by_cases h2 : (c :: r).take 2 = [61, 61] ∨ (c :: r).take 2 = [38, 38]
          · rw [signL_two h2]
            rcases h2 with h2 | h2
            · rw [h2, List.cons_append]
              have e : signL (61 :: ([61] ++ X)) = [61, 61] := signL_two (.inl rfl)
              rw [oneL_sign rfl rfl (by rw [e]; simp), e]
            · rw [h2, List.cons_append]
              have e : signL (38 :: ([38] ++ X)) = [38, 38] := signL_two (.inr rfl)
              rw [oneL_sign rfl rfl (by rw [e]; simp), e]
          · rw [signL_one h2] at hs ⊢
            by_cases hm : c ∈ sgs
            · rw [if_pos hm, List.cons_append, List.nil_append]
              have h3 : ¬ ((c :: X).take 2 = [61, 61] ∨ (c :: X).take 2 = [38, 38]) := by
                rcases hX with rfl | ⟨r', rfl⟩ <;> simp
              have e := signL_one h3
              rw [if_pos hm] at e
              rw [oneL_sign hc hd (by rw [e]; simp), e]
            · rw [if_neg hm] at hs; exact absurd rfl hs
      · rw [oneL_digit hc hd] at h
        simp only [Prod.mk.injEq] at h
        obtain ⟨rfl, rfl⟩ := h
        have h1 := twl_cut digB rfl (c :: r) X hX
        have h2 : twl digB (c :: r) = twl digB r + 1 := by rw [twl_yes hd]; omega
        have h3 : (c :: r).take (twl digB (c :: r)) = c :: r.take (twl digB r) := by rw [h2, List.take_succ_cons]
        rw [h3, h2, List.cons_append] at h1
        rw [h3, List.cons_append, oneL_digit hc hd, h1, List.take_succ_cons, List.take_append_of_le_length (by rw [List.length_take]; have := twl_le digB r; omega), List.take_take, Nat.min_self]
    · rw [oneL_letter hc] at h
      simp only [Prod.mk.injEq] at h
      obtain ⟨rfl, rfl⟩ := h
      have hi : innerB c = true := by simp [innerB, hc]
      have h1 := twl_cut innerB rfl (c :: r) X hX
      have h2 : twl innerB (c :: r) = twl innerB r + 1 := by rw [twl_yes hi]; omega
      have h3 : (c :: r).take (twl innerB (c :: r)) = c :: r.take (twl innerB r) := by rw [h2, List.take_succ_cons]
      rw [h3, h2, List.cons_append] at h1
      rw [h3, List.cons_append, oneL_letter hc, h1, List.take_succ_cons, List.take_append_of_le_length (by rw [List.length_take]; have := twl_le innerB r; omega), List.take_take, Nat.min_self]
theorem sgs_not : ∀ c ∈ 38 :: sgs, blankI (c : UInt8).toNat = false ∧ c.toNat ≠ 47 := by decide
theorem sk_tok {L : List UInt8} (h : (oneL L).1 ≠ 0) : sk false L = 0 := by
  cases L with
  | nil => rfl
  | cons c r =>
    have key : blankI c.toNat = false ∧ c.toNat ≠ 47 := by
      cases hc : letterI c.toNat
      · cases hd : digitI c.toNat
        · by_cases hs : signL (c :: r) = []
          · rw [oneL_none hc hd hs] at h; simp at h
          · apply sgs_not
            by_cases h2 : (c :: r).take 2 = [61, 61] ∨ (c :: r).take 2 = [38, 38]
            · rcases h2 with h2 | h2
              · rw [List.take_succ_cons] at h2; injection h2 with h2; subst h2; decide
              · rw [List.take_succ_cons] at h2; injection h2 with h2; subst h2; decide
            · rw [signL_one h2] at hs
              by_cases hm : c ∈ sgs
              · exact List.mem_cons_of_mem _ hm
              · rw [if_neg hm] at hs; exact absurd rfl hs
        · rw [digitI_iff] at hd
          refine ⟨?_, by omega⟩
          simp only [blankI, Bool.or_eq_false_iff, beq_eq_false_iff_ne]
          omega
      · simp only [letterI, Bool.or_eq_true, Bool.and_eq_true, decide_eq_true_eq] at hc
        refine ⟨?_, by omega⟩
        simp only [blankI, Bool.or_eq_false_iff, beq_eq_false_iff_ne]
        omega
    exact sk_none c r key.1 (fun e => key.2 e.1)
theorem blk_tail (xs : List (List UInt8)) : Blk (Lib.joinTail [32] xs) := by
  cases xs with
  | nil => exact .inl rfl
  | cons x r => exact .inr ⟨x ++ Lib.joinTail [32] r, by simp [Lib.joinTail]⟩
theorem seg_back {L : List UInt8} {a : Nat} {l : List Tok} (h : Seg L a l) : ∀ acc : List UInt8, ∃ m, Seg (acc ++ Lib.joinTail [32] (txts l)) acc.length m ∧ sameL l m = true := by
  induction h with
  | last a ha h =>
    intro acc
    have e : Lib.joinTail [32] (txts [⟨0, [], (L.length : Nat)⟩]) = [] := rfl
    rw [e, List.append_nil]
    exact ⟨_, .last acc.length (Nat.le_refl _) (by simp [sk]), by simp [sameL, sameT]⟩
  | more a k tx p l ha hp ho hk hb hl ih =>
    intro acc
    obtain ⟨m, hm, hs⟩ := ih (acc ++ [32] ++ tx)
    have hk' : ((k : Int) = 0) = False := by simp; exact hk
    have e : acc ++ Lib.joinTail [32] (txts (⟨k, tx, (p : Nat)⟩ :: l)) = acc ++ [32] ++ tx ++ Lib.joinTail [32] (txts l) := by
      rw [txts]; simp only [hk', if_false]; simp [Lib.joinTail]
    rw [e]
    have hlen : (acc ++ [32] ++ tx).length = acc.length + 1 + tx.length := by simp; omega
    rw [hlen] at hm
    have hcut := oneL_cut ho hk (blk_tail (txts l))
    have hd : (acc ++ [32] ++ tx ++ Lib.joinTail [32] (txts l)).drop acc.length = 32 :: (tx ++ Lib.joinTail [32] (txts l)) := by simp
    have hd1 : (acc ++ [32] ++ tx ++ Lib.joinTail [32] (txts l)).drop (acc.length + 1) = tx ++ Lib.joinTail [32] (txts l) := by
      rw [← List.drop_drop, hd]; rfl
    refine ⟨⟨k, tx, ((acc.length + 1 : Nat) : Nat)⟩ :: m, .more acc.length k tx (acc.length + 1) m (by simp) ?_ (by rw [hd1, hcut]) hk hb hm, by simp [sameL, sameT, hs]⟩
    rw [hd, sk_blank 32 _ rfl, sk_tok (by rw [hcut]; exact hk)]
theorem seg_first {L : List UInt8} {a : Nat} {l : List Tok} (h : Seg L a l) : ∃ m, Seg (textL l) 0 m ∧ sameL l m = true := by
  rw [textL_join]
  cases h with
  | last _ ha h =>
    have e : Lib.join (txts [⟨0, [], (L.length : Nat)⟩]) [32] = [] := rfl
    rw [e]
    exact ⟨_, .last 0 (Nat.le_refl _) (by simp [sk]), by simp [sameL, sameT]⟩
  | more _ k tx p l ha hp ho hk hb hl =>
    obtain ⟨m, hm, hs⟩ := seg_back hl tx
    have hk' : ((k : Int) = 0) = False := by simp; exact hk
    have e : Lib.join (txts (⟨k, tx, (p : Nat)⟩ :: l)) [32] = tx ++ Lib.joinTail [32] (txts l) := by
      rw [txts]; simp only [hk', if_false]; rw [Lib.join_cons]
    rw [e]
    have hcut := oneL_cut ho hk (blk_tail (txts l))
    refine ⟨⟨k, tx, ((0 : Nat) : Nat)⟩ :: m, .more 0 k tx 0 m (Nat.zero_le _) ?_ (by rw [List.drop_zero, hcut]) hk hb (by simpa using hm), by simp [sameL, sameT, hs]⟩
    rw [List.drop_zero, sk_tok (by rw [hcut]; exact hk)]
theorem seg_size {L : List UInt8} {a : Nat} {l : List Tok} (h : Seg L a l) : (Lib.joinTail [32] (txts l)).length + 2 * a ≤ 2 * L.length := by
  induction h with
  | last a ha h => simp [txts, Lib.joinTail]; omega
  | more a k tx p l ha hp ho hk hb hl ih =>
    have hk' : ((k : Int) = 0) = False := by simp; exact hk
    have hpos := oneL_pos (L.drop p) (by rw [ho]; exact hk)
    rw [ho] at hpos
    dsimp only at hpos
    rw [txts]; simp only [hk', if_false]
    have e : (Lib.joinTail [32] (tx :: txts l)).length = 1 + tx.length + (Lib.joinTail [32] (txts l)).length := by simp [Lib.joinTail]; omega
    omega
theorem text_size {L : List UInt8} {a : Nat} {l : List Tok} (h : Seg L a l) : (textL l).length ≤ 2 * L.length := by
  have := seg_size h
  rw [textL_join]
  cases hx : txts l with
  | nil => simp [Lib.join_nil]
  | cons x r =>
    rw [hx] at this
    rw [Lib.join_cons]
    simp [Lib.joinTail] at this ⊢
    omega
theorem seg_len {L : List UInt8} {a : Nat} {l : List Tok} (h : Seg L a l) : l.length + a ≤ L.length + 1 ∧ l ≠ [] ∧ l.getLast? = some ⟨0, [], (L.length : Nat)⟩ ∧ ∀ x ∈ l, x.text.length ≤ L.length := by
  induction h with
  | last a ha h => exact ⟨by simp; omega, by simp, rfl, by simp⟩
  | more a k tx p l ha hp ho hk hb hl ih =>
    have hpos := oneL_pos (L.drop p) (by rw [ho]; exact hk)
    have hle := oneL_le (L.drop p)
    rw [ho, List.length_drop] at hle
    rw [ho] at hpos
    dsimp only at hpos hle
    obtain ⟨h1, h2, h3, h4⟩ := ih
    refine ⟨by simp; omega, by simp, ?_, fun x hx => ?_⟩
    · rw [List.getLast?_cons]; rw [h3]; rfl
    · rcases List.mem_cons.1 hx with rfl | hx
      · dsimp only; omega
      · exact h4 x hx
theorem sk_take : ∀ (l : List UInt8) (b : Bool), sk b (l.take (sk b l)) = sk b l
  | [], b => by cases b <;> rfl
  | c :: r, true => by
    by_cases h : c.toNat = 10
    · have e : sk true (c :: r) = 1 + sk false r := by simp only [sk, if_pos h]
      rw [e, Nat.add_comm 1, List.take_succ_cons]
      simp only [sk, if_pos h, sk_take r false]; omega
    · rw [sk_on c r h, Nat.add_comm 1, List.take_succ_cons, sk_on c _ h, sk_take r true]; omega
  | c :: r, false => by
    by_cases h : blankI c.toNat = true
    · rw [sk_blank c r h, Nat.add_comm 1, List.take_succ_cons, sk_blank c _ h, sk_take r false]; omega
    · have h : blankI c.toNat = false := by simpa using h
      by_cases h2 : c.toNat = 47 ∧ (r.head?.map UInt8.toNat) = some 47
      · have h10 : ¬ c.toNat = 10 := by omega
        rw [sk_remark c r h h2, sk_on c r h10, Nat.add_comm 1, List.take_succ_cons]
        cases r with
        | nil => simp at h2
        | cons d r =>
          have hd : d.toNat = 47 := by simpa using h2.2
          have ih := sk_take (d :: r) true
          rw [sk_on d r (by omega), Nat.add_comm 1, List.take_succ_cons] at ih ⊢
          rw [sk_remark c _ h ⟨h2.1, by simp [hd]⟩, sk_on c _ h10, ih]; omega
      · rw [sk_none c r h h2]; rfl
theorem gap_tok {L : List UInt8} {a : Nat} (hL : L.length ≤ 16384) : tokOf ((L.drop a).take (sk false (L.drop a))) = ([⟨0, [], (sk false (L.drop a) : Nat)⟩], 0, 0) := by
  have hsk := sk_le (L.drop a) false
  have hlen : ((L.drop a).take (sk false (L.drop a))).length = sk false (L.drop a) := by rw [List.length_take]; omega
  rw [List.length_drop] at hsk
  have hs : Seg ((L.drop a).take (sk false (L.drop a))) 0 [⟨0, [], (((L.drop a).take (sk false (L.drop a))).length : Nat)⟩] := .last 0 (Nat.zero_le _) (by rw [List.drop_zero, sk_take, hlen]; omega)
  rw [hlen] at hs
  exact seg_tokOf (by omega) hs
end Go.Proofs.YtnindeoemfgkeaaRRRRDoor
