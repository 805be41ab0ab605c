/- Contract of demesneref07.Owners: the loop: which owners stand behind a "<", or what is wrong. -/
import Derived.Test.YtnindeoemfgkeaaRRRRRef07d
namespace Go.Proofs.YtnindeoemfgkeaaRRRR
open Go.RowKit
theorem isW_other {t : Tok} {a b : List UInt8} (h : isW t a = true) (hab : a ≠ b) : isW t b = false := by
  unfold isW at *
  simp only [Bool.and_eq_true, beq_iff_eq] at h
  rw [h.2]
  simp [hab]
theorem own1_cases (t : Tok) (ps : List (List UInt8)) (n : Nat) (hn : n ≤ 3) :
    (t.kind = 1 ∧ idxIn t.text ps 0 = 0 ∧ own1 t ps n = (4, (0, 0))) ∨
    (t.kind = 1 ∧ idxIn t.text ps 0 ≠ 0 ∧ n = 3 ∧ own1 t ps n = ((10 : Int), ((3 : Int), (idxIn t.text ps 0 : Int)))) ∨
    (t.kind = 1 ∧ idxIn t.text ps 0 ≠ 0 ∧ n < 3 ∧ own1 t ps n = ((0 : Int), ((3 : Int), (idxIn t.text ps 0 : Int)))) ∨
    (t.kind ≠ 1 ∧ (knownO t = 0 ∨ knownO t = 6) ∧ own1 t ps n = (3, (knownO t, 0))) ∨
    (t.kind ≠ 1 ∧ knownO t ≠ 0 ∧ knownO t ≠ 6 ∧ n = 3 ∧ own1 t ps n = (10, (knownO t, 0))) ∨
    (t.kind ≠ 1 ∧ knownO t ≠ 0 ∧ knownO t ≠ 6 ∧ n < 3 ∧ own1 t ps n = (0, (knownO t, 0))) := by
  unfold own1
  by_cases h1 : t.kind = 1
  · by_cases h2 : idxIn t.text ps 0 = 0
    · exact .inl ⟨h1, h2, by simp [h1, h2]⟩
    · by_cases h3 : n = 3
      · exact .inr (.inl ⟨h1, h2, h3, by simp [h1, h2, h3]⟩)
      · exact .inr (.inr (.inl ⟨h1, h2, by omega, by simp [h1, h2, h3]⟩))
  · by_cases h2 : knownO t = 0 ∨ knownO t = 6
    · exact .inr (.inr (.inr (.inl ⟨h1, h2, by simp [h1, h2]⟩)))
    · have h2' := h2
      rw [not_or] at h2'
      by_cases h3 : n = 3
      · exact .inr (.inr (.inr (.inr (.inl ⟨h1, h2'.1, h2'.2, h3, by simp [h1, h2, h3]⟩))))
      · exact .inr (.inr (.inr (.inr (.inr ⟨h1, h2'.1, h2'.2, by omega, by simp [h1, h2, h3]⟩))))
theorem own_swap {w1 w2 : World} {base : Nat} {e : TypeId} {size n : Nat} {v : Value} {xs : List Value} (hown : w1.ownsRow base e size v n xs) (h : ∀ b, base ≤ b → w2.heap[b]? = w1.heap[b]?) : w2.ownsRow base e size v n xs := by
  obtain ⟨h1, h2⟩ := hown
  refine ⟨h1, ?_⟩
  rcases h2 with h2 | ⟨g, cap, cur, hv, hg, hh, r⟩
  · exact .inl h2
  · exact .inr ⟨g, cap, cur, hv, hg, (h g hg).trans hh, r⟩
theorem heap_swap (w : World) (o o' : Obj) (h : Array Obj) (d : Nat) (b : Nat) (hb : w.heap.size + 1 ≤ b) : (wext (w.alloc o') h d).heap[b]? = (wext (w.alloc o) h d).heap[b]? := by
  show (w.heap.push o' ++ h)[b]? = (w.heap.push o ++ h)[b]?
  rw [Array.getElem?_append_right (by simp; omega), Array.getElem?_append_right (by simp; omega)]
  simp
theorem own_d {w : World} {base : Nat} {e : TypeId} {size n : Nat} {v : Value} {xs : List Value} {h : Array Obj} {d d' : Nat} (hown : (wext w h d).ownsRow base e size v n xs) : (wext w h d').ownsRow base e size v n xs := hown
theorem own_app {w : World} {base : Nat} {e : TypeId} {size n : Nat} {v : Value} {xs : List Value} {h h' : Array Obj} {d d' : Nat} (hown : (wext w h d).ownsRow base e size v n xs) : (wext w (h ++ h') d').ownsRow base e size v n xs := by
  rw [← wext_wext w h d h' d']; exact own_ext hown _ _
section
variable (toks : List Tok) (ps : List (List UInt8)) (A PA : Option Addr) (c pc B : Nat) (at_ k : Int) (w : World)
set_option maxRecDepth 100000 in
set_option maxHeartbeats 8000000 in
theorem r07Owners_ge (hl : SlB Tok.cells 3 w B A toks) (hn : toks.length ≤ 1000000) (hp : SlB strC 1 w B PA ps) (hm : ps.length ≤ 1000000) (ha : I64 at_) (hok : ∀ i, (tokAt toks i).kind = 4 → ownW (tokAt toks i).text = 0) (h : isW (tokAt toks at_) [60] = true) :
    Calls Try.prog 23 #[.slice A toks.length c, .int .i64 at_, .slice PA ps.length pc] w (Owns7 w (ownsL toks ps at_)) := by
  have HO := Lib.hid (show ownsL toks ps at_ = ownsF toks ps 4 at_ [] by rw [ownsL, h]; rfl)
  have HL := Lib.hid h
  have HK := Lib.hid hok
  clear h hok
  obtain ⟨i0, hi0, hz0, hz1, hz2⟩ := info_parts info_Owner
  go_enter Try.func23, Try.ntmps23
  go_wp2_with (first
    | (go_at_call 43; refine (r06Tok_any toks A c B _ _ (by repeat (first | exact hl | apply SlB.alloc | apply SlB.ext)) hn).mono ?_; rintro e w' ⟨rfl, hq⟩; obtain ⟨xh, xd, rfl⟩ := hq)
    | (go_at_call 44; refine (r03Is_any _ _ _ _ _).mono ?_; rintro e w' ⟨rfl, hq⟩; obtain ⟨yh, yd, rfl⟩ := hq; rw [show isW ⟨(tokAt toks at_).kind, (tokAt toks at_).text, (tokAt toks at_).pos⟩ (⟨#[60]⟩ : ByteArray).data.toList = _ from HL.out]))
  go_loopw [1, 7] (fun ai out wr => ∃ (a1 : Int) (f co : Nat) (Ao : Option Addr) (acc : List (Int × Int)) (xh : Array Obj) (xd : Nat), I64 a1 ∧ ai = .int .i64 a1 ∧ f + acc.length = 4 ∧ acc.length ≤ 3 ∧
      ownsL toks ps at_ = ownsF toks ps f a1 acc ∧ out = .slice Ao acc.length co ∧ wr = wext (w.alloc (.cells (got7 (.slice none 0 0) Ty.zero 0 0 0) 67)) xh xd ∧
      wr.ownsRow (w.heap.size + 1) 57 2 (.slice Ao acc.length co) acc.length (acc.flatMap ownC)) (fun _ out _ => 4 - slLen out)
  case atStart => exact ⟨at_, 4, 0, none, [], _, _, ha, rfl, rfl, Nat.zero_le _, HO.out, rfl, wext_wext _ _ _ _ _, World.ownsRow_nil _ _ _ _⟩
  case round =>
    obtain ⟨a1, f, co, Ao, acc, xh, xd, ha1, rfl, hfa, hle3, hR, rfl, rfl, hown⟩ := hrel
    obtain ⟨f, rfl⟩ : ∃ q, f = q + 1 := ⟨f - 1, by omega⟩
    have hokt := HK.out (w64 (a1 + 1))
    rcases own1_cases (tokAt toks (w64 (a1 + 1))) ps acc.length hle3 with ⟨h1, h2, ho⟩ | ⟨h1, h2, h3, ho⟩ | ⟨h1, h2, h3, ho⟩ | ⟨h1, h2, ho⟩ | ⟨h1, h2, h3, h4, ho⟩ | ⟨h1, h2, h3, h4, ho⟩
    · have b1 : ((tokAt toks (w64 (a1 + 1))).kind == 1) = true := by simp [h1]
      have HR := Lib.hid (hR.trans (ownsF_bad toks ps a1 f acc (by rw [ho]; simp)))
      rw [ho] at HR
      have H2 := Lib.hid h2
      obtain ⟨kv, hkv⟩ : ∃ kv, knownO (tokAt toks (w64 (a1 + 1))) = kv := ⟨_, rfl⟩
      have HKV := Lib.hid hkv
      clear h1 h2 ho hR hkv
      go_wp2_with (first
        | (go_at_call 43; refine (r06Tok_any toks A c B _ _ (by repeat (first | exact hl | exact hp | apply SlB.alloc | apply SlB.ext)) hn).mono ?_; rintro e w' ⟨rfl, hq⟩; obtain ⟨yh, yd, rfl⟩ := hq)
        | (go_at_call 45; refine (r07word_any _ _ _ _ hokt).mono ?_; rintro e w' ⟨rfl, hq⟩; obtain ⟨zh, zd, rfl⟩ := hq; rw [show knownO ⟨(tokAt toks (w64 (a1 + 1))).kind, (tokAt toks (w64 (a1 + 1))).text, (tokAt toks (w64 (a1 + 1))).pos⟩ = _ from HKV.out])
        | (go_at_call 47; refine (r07named_any ps PA pc B _ _ _ _ (by repeat (first | exact hl | exact hp | apply SlB.alloc | apply SlB.ext)) hm).mono ?_; rintro e w' ⟨rfl, hq⟩; obtain ⟨uh, ud, rfl⟩ := hq; rw [if_pos H2.out])
        | (go_at_call 48; refine (r07wrong_any toks A c B _ _ _ (by repeat (first | exact hl | exact hp | apply SlB.alloc | apply SlB.ext)) hn).mono ?_; rintro e w' ⟨rfl, hq⟩; obtain ⟨vh, vd, rfl⟩ := hq))
      refine bodyPost_ret (v := .agg (got7 (.slice none 0 0) Ty.zero 0 4 (tokAt toks (w64 (a1 + 1))).pos)) ?_ rfl (by rw [HR.out]; exact ⟨none, 0, rfl, by first | exact Grw.refl _ | (repeat (first | exact Grw.refl _ | apply Grw.ext | apply Grw.alloc | apply Grw.drewN | apply Grw.drew)); done, World.ownsRow_nil _ _ _ _⟩)
      rw [results7 Try.results23 _ _ _ rfl (by simp [go_sem])]
      simp [go_sem]
    · have HR := Lib.hid (hR.trans (ownsF_bad toks ps a1 f acc (by rw [ho]; simp)))
      rw [ho] at HR
      have b1 : ((tokAt toks (w64 (a1 + 1))).kind == 1) = true := by simp [h1]
      obtain ⟨kv, hkv⟩ : ∃ kv, knownO (tokAt toks (w64 (a1 + 1))) = kv := ⟨_, rfl⟩
      have HKV := Lib.hid hkv
      have b3 : ((acc.length : Int) == 3) = true := by simp [h3]
      have H2 := Lib.hid h2
      clear h1 h2 h3 ho hR hkv
      go_wp2_with (first
        | (go_at_call 43; refine (r06Tok_any toks A c B _ _ (by repeat (first | exact hl | exact hp | apply SlB.alloc | apply SlB.ext)) hn).mono ?_; rintro e w' ⟨rfl, hq⟩; obtain ⟨yh, yd, rfl⟩ := hq)
        | (go_at_call 45; refine (r07word_any _ _ _ _ hokt).mono ?_; rintro e w' ⟨rfl, hq⟩; obtain ⟨zh, zd, rfl⟩ := hq; rw [show knownO ⟨(tokAt toks (w64 (a1 + 1))).kind, (tokAt toks (w64 (a1 + 1))).text, (tokAt toks (w64 (a1 + 1))).pos⟩ = _ from HKV.out])
        | (go_at_call 47; refine (r07named_any ps PA pc B _ _ _ _ (by repeat (first | exact hl | exact hp | apply SlB.alloc | apply SlB.ext)) hm).mono ?_; rintro e w' ⟨rfl, hq⟩; obtain ⟨uh, ud, rfl⟩ := hq; rw [if_neg H2.out])
        | (go_at_call 48; refine (r07wrong_any toks A c B _ _ _ (by repeat (first | exact hl | exact hp | apply SlB.alloc | apply SlB.ext)) hn).mono ?_; rintro e w' ⟨rfl, hq⟩; obtain ⟨vh, vd, rfl⟩ := hq))
      refine bodyPost_ret (v := .agg (got7 (.slice none 0 0) Ty.zero 0 10 (tokAt toks (w64 (a1 + 1))).pos)) ?_ rfl (by rw [HR.out]; exact ⟨none, 0, rfl, by first | exact Grw.refl _ | (repeat (first | exact Grw.refl _ | apply Grw.ext | apply Grw.alloc | apply Grw.drewN | apply Grw.drew)); done, World.ownsRow_nil _ _ _ _⟩)
      rw [results7 Try.results23 _ _ _ rfl (by simp [go_sem])]
      simp [go_sem]
    · have HR := Lib.hid (hR.trans (ownsF_ok toks ps a1 f acc (by rw [ho])))
      rw [ho] at HR
      have b1 : ((tokAt toks (w64 (a1 + 1))).kind == 1) = true := by simp [h1]
      obtain ⟨kv, hkv⟩ : ∃ kv, knownO (tokAt toks (w64 (a1 + 1))) = kv := ⟨_, rfl⟩
      have HKV := Lib.hid hkv
      obtain ⟨m, hm'⟩ : ∃ m : Int, ((idxIn (tokAt toks (w64 (a1 + 1))).text ps 0 : Nat) : Int) = m := ⟨_, rfl⟩
      rw [hm'] at HR
      have HM := Lib.hid hm'
      have b3 : ((acc.length : Int) == 3) = false := by simp; omega
      have H2 := Lib.hid h2
      clear h1 h2 ho hR hkv hm'
      cases h62 : isW (tokAt toks (w64 (w64 (a1 + 1) + 1))) [62]
      · have H62 := Lib.hid h62
        cases h44 : isW (tokAt toks (w64 (w64 (a1 + 1) + 1))) [44]
        · have H44 := Lib.hid h44
          have HR2 := Lib.hid (show ownsL toks ps at_ = ([], 0, 3, (tokAt toks (w64 (w64 (a1 + 1) + 1))).pos) by rw [HR.out, ownsT, h44, h62]; rfl)
          clear h62 h44
          go_wp2_with (first
            | (go_at_call 43; refine (r06Tok_any toks A c B _ _ (by repeat (first | exact hl | exact hp | apply SlB.alloc | apply SlB.ext)) hn).mono ?_; rintro e w' ⟨rfl, hq⟩; obtain ⟨yh, yd, rfl⟩ := hq)
            | (go_at_call 45; refine (r07word_any _ _ _ _ hokt).mono ?_; rintro e w' ⟨rfl, hq⟩; obtain ⟨zh, zd, rfl⟩ := hq; rw [show knownO ⟨(tokAt toks (w64 (a1 + 1))).kind, (tokAt toks (w64 (a1 + 1))).text, (tokAt toks (w64 (a1 + 1))).pos⟩ = _ from HKV.out])
            | (go_at_call 47; refine (r07named_any ps PA pc B _ _ _ _ (by repeat (first | exact hl | exact hp | apply SlB.alloc | apply SlB.ext)) hm).mono ?_; rintro e w' ⟨rfl, hq⟩; obtain ⟨uh, ud, rfl⟩ := hq; rw [if_neg H2.out, HM.out])
            | (go_at_call 48; refine (r07wrong_any toks A c B _ _ _ (by repeat (first | exact hl | exact hp | apply SlB.alloc | apply SlB.ext)) hn).mono ?_; rintro e w' ⟨rfl, hq⟩; obtain ⟨vh, vd, rfl⟩ := hq)
            | (go_at_call 44; refine (r03Is_any _ _ _ _ _).mono ?_; rintro e w' ⟨rfl, hq⟩; obtain ⟨sh, sd, rfl⟩ := hq; first | rw [show isW ⟨(tokAt toks (w64 (w64 (a1 + 1) + 1))).kind, (tokAt toks (w64 (w64 (a1 + 1) + 1))).text, (tokAt toks (w64 (w64 (a1 + 1) + 1))).pos⟩ (⟨#[62]⟩ : ByteArray).data.toList = _ from H62.out] | rw [show isW ⟨(tokAt toks (w64 (w64 (a1 + 1) + 1))).kind, (tokAt toks (w64 (w64 (a1 + 1) + 1))).text, (tokAt toks (w64 (w64 (a1 + 1) + 1))).pos⟩ (⟨#[44]⟩ : ByteArray).data.toList = _ from H44.out])
            | (at_builtin
               refine wpList_append_own _ rfl _ _ 63 rfl (w.heap.size + 1) 57 i0 _ 2 16 Try.underlying63 hi0 hz0 hz1 hz2 rfl (by decide) (.slice Ao acc.length co) acc.length (acc.flatMap ownC) rfl ((own_ext ((own_ext ((own_ext hown _ _).alloc _) _ _).alloc _) _ _).alloc _) ⟨uh.size + (zh.size + (yh.size + (xh.size + (w.heap.size + 1)) + 1) + 1), 0, none⟩ 1 1 [.int .i64 3, .int .i64 m] rfl rfl ?c1 ?c2 ?c3 ?c4 ?c5 ?_
               case c1 => exact news_alloc _ #[_, _] _ _ (by simp [wext_size])
               case c2 => simp [Value.oneCell']
               case c3 => simp only [maxLen]; omega
               case c4 => omega
               case c5 => simp [wext_size]; omega
               intro v' w1 hown1 hgrow _
               obtain ⟨ph, pd, rfl⟩ : Grw (w.alloc (.cells (got7 (.slice none 0 0) Ty.zero 0 0 0) 67)) w1 := Grw.grown (by first | exact Grw.refl _ | (repeat (first | exact Grw.refl _ | apply Grw.ext | apply Grw.alloc | apply Grw.drewN | apply Grw.drew)); done) hgrow (fun k hk => by have := hown.lt k hk; simp; omega)
               obtain ⟨gg, cap, rfl, _, _⟩ := hown1.form (by omega)))
          refine bodyPost_ret (v := .agg (got7 (.slice none 0 0) Ty.zero 0 3 (tokAt toks (w64 (w64 (a1 + 1) + 1))).pos)) ?_ rfl (by rw [HR2.out]; exact ⟨none, 0, rfl, by first | exact Grw.refl _ | (repeat (first | exact Grw.refl _ | apply Grw.ext | apply Grw.alloc | apply Grw.drewN | apply Grw.drew)); done, World.ownsRow_nil _ _ _ _⟩)
          rw [results7 Try.results23 _ _ _ rfl (by simp [go_sem])]
          simp [go_sem]
        · have H44 := Lib.hid h44
          have HR2 := Lib.hid (show ownsL toks ps at_ = ownsF toks ps f (w64 (w64 (a1 + 1) + 1)) (acc ++ [(3, m)]) by rw [HR.out, ownsT, h44]; rfl)
          clear h62 h44
          go_wp2_with (first
            | (go_at_call 43; refine (r06Tok_any toks A c B _ _ (by repeat (first | exact hl | exact hp | apply SlB.alloc | apply SlB.ext)) hn).mono ?_; rintro e w' ⟨rfl, hq⟩; obtain ⟨yh, yd, rfl⟩ := hq)
            | (go_at_call 45; refine (r07word_any _ _ _ _ hokt).mono ?_; rintro e w' ⟨rfl, hq⟩; obtain ⟨zh, zd, rfl⟩ := hq; rw [show knownO ⟨(tokAt toks (w64 (a1 + 1))).kind, (tokAt toks (w64 (a1 + 1))).text, (tokAt toks (w64 (a1 + 1))).pos⟩ = _ from HKV.out])
            | (go_at_call 47; refine (r07named_any ps PA pc B _ _ _ _ (by repeat (first | exact hl | exact hp | apply SlB.alloc | apply SlB.ext)) hm).mono ?_; rintro e w' ⟨rfl, hq⟩; obtain ⟨uh, ud, rfl⟩ := hq; rw [if_neg H2.out, HM.out])
            | (go_at_call 48; refine (r07wrong_any toks A c B _ _ _ (by repeat (first | exact hl | exact hp | apply SlB.alloc | apply SlB.ext)) hn).mono ?_; rintro e w' ⟨rfl, hq⟩; obtain ⟨vh, vd, rfl⟩ := hq)
            | (go_at_call 44; refine (r03Is_any _ _ _ _ _).mono ?_; rintro e w' ⟨rfl, hq⟩; obtain ⟨sh, sd, rfl⟩ := hq; first | rw [show isW ⟨(tokAt toks (w64 (w64 (a1 + 1) + 1))).kind, (tokAt toks (w64 (w64 (a1 + 1) + 1))).text, (tokAt toks (w64 (w64 (a1 + 1) + 1))).pos⟩ (⟨#[62]⟩ : ByteArray).data.toList = _ from H62.out] | rw [show isW ⟨(tokAt toks (w64 (w64 (a1 + 1) + 1))).kind, (tokAt toks (w64 (w64 (a1 + 1) + 1))).text, (tokAt toks (w64 (w64 (a1 + 1) + 1))).pos⟩ (⟨#[44]⟩ : ByteArray).data.toList = _ from H44.out])
            | (at_builtin
               refine wpList_append_own _ rfl _ _ 63 rfl (w.heap.size + 1) 57 i0 _ 2 16 Try.underlying63 hi0 hz0 hz1 hz2 rfl (by decide) (.slice Ao acc.length co) acc.length (acc.flatMap ownC) rfl ((own_ext ((own_ext ((own_ext hown _ _).alloc _) _ _).alloc _) _ _).alloc _) ⟨uh.size + (zh.size + (yh.size + (xh.size + (w.heap.size + 1)) + 1) + 1), 0, none⟩ 1 1 [.int .i64 3, .int .i64 m] rfl rfl ?c1 ?c2 ?c3 ?c4 ?c5 ?_
               case c1 => exact news_alloc _ #[_, _] _ _ (by simp [wext_size])
               case c2 => simp [Value.oneCell']
               case c3 => simp only [maxLen]; omega
               case c4 => omega
               case c5 => simp [wext_size]; omega
               intro v' w1 hown1 hgrow _
               obtain ⟨ph, pd, rfl⟩ : Grw (w.alloc (.cells (got7 (.slice none 0 0) Ty.zero 0 0 0) 67)) w1 := Grw.grown (by first | exact Grw.refl _ | (repeat (first | exact Grw.refl _ | apply Grw.ext | apply Grw.alloc | apply Grw.drewN | apply Grw.drew)); done) hgrow (fun k hk => by have := hown.lt k hk; simp; omega)
               obtain ⟨gg, cap, rfl, _, _⟩ := hown1.form (by omega)))
          simp only [wext_wext]
          go_roundw
          case rel => exact ⟨w64 (w64 (a1 + 1) + 1), f, cap, some ⟨gg, 0, none⟩, acc ++ [(3, m)], _, _, I64_w64 _, rfl, by simp; omega, by simp; omega, HR2.out, by rw [List.length_append]; rfl, rfl, by
            rw [List.length_append, List.flatMap_append]; repeat (first | exact own_d hown1 | refine own_app (d := 0) ?_)⟩
          case measure => simp [slLen]; omega
      · have H62 := Lib.hid h62
        have H44 := Lib.hid (isW_other h62 (show ([62] : List UInt8) ≠ [44] by decide))
        have HR2 := Lib.hid (show ownsL toks ps at_ = (acc ++ [(3, m)], w64 (w64 (w64 (a1 + 1) + 1) + 1), 0, 0) by rw [HR.out, ownsT, H44.out, h62]; rfl)
        clear h62
        go_wp2_with (first
          | (go_at_call 43; refine (r06Tok_any toks A c B _ _ (by repeat (first | exact hl | exact hp | apply SlB.alloc | apply SlB.ext)) hn).mono ?_; rintro e w' ⟨rfl, hq⟩; obtain ⟨yh, yd, rfl⟩ := hq)
          | (go_at_call 45; refine (r07word_any _ _ _ _ hokt).mono ?_; rintro e w' ⟨rfl, hq⟩; obtain ⟨zh, zd, rfl⟩ := hq; rw [show knownO ⟨(tokAt toks (w64 (a1 + 1))).kind, (tokAt toks (w64 (a1 + 1))).text, (tokAt toks (w64 (a1 + 1))).pos⟩ = _ from HKV.out])
          | (go_at_call 47; refine (r07named_any ps PA pc B _ _ _ _ (by repeat (first | exact hl | exact hp | apply SlB.alloc | apply SlB.ext)) hm).mono ?_; rintro e w' ⟨rfl, hq⟩; obtain ⟨uh, ud, rfl⟩ := hq; rw [if_neg H2.out, HM.out])
          | (go_at_call 48; refine (r07wrong_any toks A c B _ _ _ (by repeat (first | exact hl | exact hp | apply SlB.alloc | apply SlB.ext)) hn).mono ?_; rintro e w' ⟨rfl, hq⟩; obtain ⟨vh, vd, rfl⟩ := hq)
          | (go_at_call 44; refine (r03Is_any _ _ _ _ _).mono ?_; rintro e w' ⟨rfl, hq⟩; obtain ⟨sh, sd, rfl⟩ := hq; first | rw [show isW ⟨(tokAt toks (w64 (w64 (a1 + 1) + 1))).kind, (tokAt toks (w64 (w64 (a1 + 1) + 1))).text, (tokAt toks (w64 (w64 (a1 + 1) + 1))).pos⟩ (⟨#[62]⟩ : ByteArray).data.toList = _ from H62.out] | rw [show isW ⟨(tokAt toks (w64 (w64 (a1 + 1) + 1))).kind, (tokAt toks (w64 (w64 (a1 + 1) + 1))).text, (tokAt toks (w64 (w64 (a1 + 1) + 1))).pos⟩ (⟨#[44]⟩ : ByteArray).data.toList = _ from H44.out])
          | (at_builtin
             refine wpList_append_own _ rfl _ _ 63 rfl (w.heap.size + 1) 57 i0 _ 2 16 Try.underlying63 hi0 hz0 hz1 hz2 rfl (by decide) (.slice Ao acc.length co) acc.length (acc.flatMap ownC) rfl ((own_ext ((own_ext ((own_ext hown _ _).alloc _) _ _).alloc _) _ _).alloc _) ⟨uh.size + (zh.size + (yh.size + (xh.size + (w.heap.size + 1)) + 1) + 1), 0, none⟩ 1 1 [.int .i64 3, .int .i64 m] rfl rfl ?c1 ?c2 ?c3 ?c4 ?c5 ?_
             case c1 => exact news_alloc _ #[_, _] _ _ (by simp [wext_size])
             case c2 => simp [Value.oneCell']
             case c3 => simp only [maxLen]; omega
             case c4 => omega
             case c5 => simp [wext_size]; omega
             intro v' w1 hown1 hgrow _
             obtain ⟨ph, pd, rfl⟩ : Grw (w.alloc (.cells (got7 (.slice none 0 0) Ty.zero 0 0 0) 67)) w1 := Grw.grown (by first | exact Grw.refl _ | (repeat (first | exact Grw.refl _ | apply Grw.ext | apply Grw.alloc | apply Grw.drewN | apply Grw.drew)); done) hgrow (fun k hk => by have := hown.lt k hk; simp; omega)
             obtain ⟨gg, cap, rfl, _, _⟩ := hown1.form (by omega)))
        refine bodyPost_ret (v := .agg (got7 (.slice (some ⟨gg, 0, none⟩) (acc.length + 1) cap) Ty.zero (w64 (w64 (w64 (a1 + 1) + 1) + 1)) 0 0)) ?_ rfl (by
                  rw [HR2.out]
                  refine ⟨some ⟨gg, 0, none⟩, cap, by rw [List.length_append]; rfl, by first | exact Grw.refl _ | (repeat (first | exact Grw.refl _ | apply Grw.ext | apply Grw.alloc | apply Grw.drewN | apply Grw.drew)); done, ?_⟩
                  rw [List.length_append, List.flatMap_append]
                  refine own_base (base := w.heap.size + 1) ?_ (by omega)
                  repeat (first | exact own_swap hown1 (fun b hb => heap_swap w _ _ _ _ b hb) | apply own_ext))
        rw [results7 Try.results23 _ _ _ rfl (by simp [go_sem])]
        simp [go_sem]
    · have HR := Lib.hid (hR.trans (ownsF_bad toks ps a1 f acc (by rw [ho]; simp)))
      rw [ho] at HR
      have b1 : ((tokAt toks (w64 (a1 + 1))).kind == 1) = false := by simp [h1]
      obtain ⟨kv, hkv⟩ : ∃ kv, knownO (tokAt toks (w64 (a1 + 1))) = kv := ⟨_, rfl⟩
      have HKV := Lib.hid hkv
      have b2 : (kv == 0) = true ∨ (kv == 0) = false ∧ (kv == 6) = true := by rw [← hkv]; rcases h2 with h | h <;> rw [h] <;> simp
      clear h1 h2 ho hR hkv
      rcases b2 with b2 | ⟨b2, b4⟩
      all_goals
        go_wp2_with (first
          | (go_at_call 43; refine (r06Tok_any toks A c B _ _ (by repeat (first | exact hl | exact hp | apply SlB.alloc | apply SlB.ext)) hn).mono ?_; rintro e w' ⟨rfl, hq⟩; obtain ⟨yh, yd, rfl⟩ := hq)
          | (go_at_call 45; refine (r07word_any _ _ _ _ hokt).mono ?_; rintro e w' ⟨rfl, hq⟩; obtain ⟨zh, zd, rfl⟩ := hq; rw [show knownO ⟨(tokAt toks (w64 (a1 + 1))).kind, (tokAt toks (w64 (a1 + 1))).text, (tokAt toks (w64 (a1 + 1))).pos⟩ = _ from HKV.out])
          | (go_at_call 47; refine (r07named_any ps PA pc B _ _ _ _ (by repeat (first | exact hl | exact hp | apply SlB.alloc | apply SlB.ext)) hm).mono ?_; rintro e w' ⟨rfl, hq⟩; obtain ⟨uh, ud, rfl⟩ := hq; rw [rfl])
          | (go_at_call 48; refine (r07wrong_any toks A c B _ _ _ (by repeat (first | exact hl | exact hp | apply SlB.alloc | apply SlB.ext)) hn).mono ?_; rintro e w' ⟨rfl, hq⟩; obtain ⟨vh, vd, rfl⟩ := hq))
        refine bodyPost_ret (v := .agg (got7 (.slice none 0 0) Ty.zero 0 3 (tokAt toks (w64 (a1 + 1))).pos)) ?_ rfl (by rw [HR.out]; exact ⟨none, 0, rfl, by first | exact Grw.refl _ | (repeat (first | exact Grw.refl _ | apply Grw.ext | apply Grw.alloc | apply Grw.drewN | apply Grw.drew)); done, World.ownsRow_nil _ _ _ _⟩)
        rw [results7 Try.results23 _ _ _ rfl (by simp [go_sem])]
        simp [go_sem]
    · have HR := Lib.hid (hR.trans (ownsF_bad toks ps a1 f acc (by rw [ho]; simp)))
      rw [ho] at HR
      have b1 : ((tokAt toks (w64 (a1 + 1))).kind == 1) = false := by simp [h1]
      obtain ⟨kv, hkv⟩ : ∃ kv, knownO (tokAt toks (w64 (a1 + 1))) = kv := ⟨_, rfl⟩
      have HKV := Lib.hid hkv
      have b2 : (kv == 0) = false := by rw [← hkv]; simpa using h2
      have b4 : (kv == 6) = false := by rw [← hkv]; simpa using h3
      have b3 : ((acc.length : Int) == 3) = true := by simp; omega
      clear h1 h2 h3 ho hR hkv
      go_wp2_with (first
        | (go_at_call 43; refine (r06Tok_any toks A c B _ _ (by repeat (first | exact hl | exact hp | apply SlB.alloc | apply SlB.ext)) hn).mono ?_; rintro e w' ⟨rfl, hq⟩; obtain ⟨yh, yd, rfl⟩ := hq)
        | (go_at_call 45; refine (r07word_any _ _ _ _ hokt).mono ?_; rintro e w' ⟨rfl, hq⟩; obtain ⟨zh, zd, rfl⟩ := hq; rw [show knownO ⟨(tokAt toks (w64 (a1 + 1))).kind, (tokAt toks (w64 (a1 + 1))).text, (tokAt toks (w64 (a1 + 1))).pos⟩ = _ from HKV.out])
        | (go_at_call 47; refine (r07named_any ps PA pc B _ _ _ _ (by repeat (first | exact hl | exact hp | apply SlB.alloc | apply SlB.ext)) hm).mono ?_; rintro e w' ⟨rfl, hq⟩; obtain ⟨uh, ud, rfl⟩ := hq; rw [rfl])
        | (go_at_call 48; refine (r07wrong_any toks A c B _ _ _ (by repeat (first | exact hl | exact hp | apply SlB.alloc | apply SlB.ext)) hn).mono ?_; rintro e w' ⟨rfl, hq⟩; obtain ⟨vh, vd, rfl⟩ := hq))
      refine bodyPost_ret (v := .agg (got7 (.slice none 0 0) Ty.zero 0 10 (tokAt toks (w64 (a1 + 1))).pos)) ?_ rfl (by rw [HR.out]; exact ⟨none, 0, rfl, by first | exact Grw.refl _ | (repeat (first | exact Grw.refl _ | apply Grw.ext | apply Grw.alloc | apply Grw.drewN | apply Grw.drew)); done, World.ownsRow_nil _ _ _ _⟩)
      rw [results7 Try.results23 _ _ _ rfl (by simp [go_sem])]
      simp [go_sem]
    · have HR := Lib.hid (hR.trans (ownsF_ok toks ps a1 f acc (by rw [ho])))
      rw [ho] at HR
      have b1 : ((tokAt toks (w64 (a1 + 1))).kind == 1) = false := by simp [h1]
      obtain ⟨kv, hkv⟩ : ∃ kv, knownO (tokAt toks (w64 (a1 + 1))) = kv := ⟨_, rfl⟩
      have HKV := Lib.hid hkv
      rw [hkv] at HR
      have b2 : (kv == 0) = false := by rw [← hkv]; simpa using h2
      have b4 : (kv == 6) = false := by rw [← hkv]; simpa using h3
      have b3 : ((acc.length : Int) == 3) = false := by simp; omega
      clear h1 h2 h3 ho hR hkv
      cases h62 : isW (tokAt toks (w64 (w64 (a1 + 1) + 1))) [62]
      · have H62 := Lib.hid h62
        cases h44 : isW (tokAt toks (w64 (w64 (a1 + 1) + 1))) [44]
        · have H44 := Lib.hid h44
          have HR2 := Lib.hid (show ownsL toks ps at_ = ([], 0, 3, (tokAt toks (w64 (w64 (a1 + 1) + 1))).pos) by rw [HR.out, ownsT, h44, h62]; rfl)
          clear h62 h44
          go_wp2_with (first
            | (go_at_call 43; refine (r06Tok_any toks A c B _ _ (by repeat (first | exact hl | exact hp | apply SlB.alloc | apply SlB.ext)) hn).mono ?_; rintro e w' ⟨rfl, hq⟩; obtain ⟨yh, yd, rfl⟩ := hq)
            | (go_at_call 45; refine (r07word_any _ _ _ _ hokt).mono ?_; rintro e w' ⟨rfl, hq⟩; obtain ⟨zh, zd, rfl⟩ := hq; rw [show knownO ⟨(tokAt toks (w64 (a1 + 1))).kind, (tokAt toks (w64 (a1 + 1))).text, (tokAt toks (w64 (a1 + 1))).pos⟩ = _ from HKV.out])
            | (go_at_call 47; refine (r07named_any ps PA pc B _ _ _ _ (by repeat (first | exact hl | exact hp | apply SlB.alloc | apply SlB.ext)) hm).mono ?_; rintro e w' ⟨rfl, hq⟩; obtain ⟨uh, ud, rfl⟩ := hq; rw [rfl])
            | (go_at_call 48; refine (r07wrong_any toks A c B _ _ _ (by repeat (first | exact hl | exact hp | apply SlB.alloc | apply SlB.ext)) hn).mono ?_; rintro e w' ⟨rfl, hq⟩; obtain ⟨vh, vd, rfl⟩ := hq)
            | (go_at_call 44; refine (r03Is_any _ _ _ _ _).mono ?_; rintro e w' ⟨rfl, hq⟩; obtain ⟨sh, sd, rfl⟩ := hq; first | rw [show isW ⟨(tokAt toks (w64 (w64 (a1 + 1) + 1))).kind, (tokAt toks (w64 (w64 (a1 + 1) + 1))).text, (tokAt toks (w64 (w64 (a1 + 1) + 1))).pos⟩ (⟨#[62]⟩ : ByteArray).data.toList = _ from H62.out] | rw [show isW ⟨(tokAt toks (w64 (w64 (a1 + 1) + 1))).kind, (tokAt toks (w64 (w64 (a1 + 1) + 1))).text, (tokAt toks (w64 (w64 (a1 + 1) + 1))).pos⟩ (⟨#[44]⟩ : ByteArray).data.toList = _ from H44.out])
            | (at_builtin
               refine wpList_append_own _ rfl _ _ 63 rfl (w.heap.size + 1) 57 i0 _ 2 16 Try.underlying63 hi0 hz0 hz1 hz2 rfl (by decide) (.slice Ao acc.length co) acc.length (acc.flatMap ownC) rfl (((own_ext ((own_ext hown _ _).alloc _) _ _).alloc _).alloc _) ⟨zh.size + (yh.size + (xh.size + (w.heap.size + 1)) + 1) + 1, 0, none⟩ 1 1 [.int .i64 kv, .int .i64 0] rfl rfl ?c1 ?c2 ?c3 ?c4 ?c5 ?_
               case c1 => exact news_alloc _ #[_, _] _ _ (by simp [wext_size])
               case c2 => simp [Value.oneCell']
               case c3 => simp only [maxLen]; omega
               case c4 => omega
               case c5 => simp [wext_size]; omega
               intro v' w1 hown1 hgrow _
               obtain ⟨ph, pd, rfl⟩ : Grw (w.alloc (.cells (got7 (.slice none 0 0) Ty.zero 0 0 0) 67)) w1 := Grw.grown (by first | exact Grw.refl _ | (repeat (first | exact Grw.refl _ | apply Grw.ext | apply Grw.alloc | apply Grw.drewN | apply Grw.drew)); done) hgrow (fun k hk => by have := hown.lt k hk; simp; omega)
               obtain ⟨gg, cap, rfl, _, _⟩ := hown1.form (by omega)))
          refine bodyPost_ret (v := .agg (got7 (.slice none 0 0) Ty.zero 0 3 (tokAt toks (w64 (w64 (a1 + 1) + 1))).pos)) ?_ rfl (by rw [HR2.out]; exact ⟨none, 0, rfl, by first | exact Grw.refl _ | (repeat (first | exact Grw.refl _ | apply Grw.ext | apply Grw.alloc | apply Grw.drewN | apply Grw.drew)); done, World.ownsRow_nil _ _ _ _⟩)
          rw [results7 Try.results23 _ _ _ rfl (by simp [go_sem])]
          simp [go_sem]
        · have H44 := Lib.hid h44
          have HR2 := Lib.hid (show ownsL toks ps at_ = ownsF toks ps f (w64 (w64 (a1 + 1) + 1)) (acc ++ [(kv, 0)]) by rw [HR.out, ownsT, h44]; rfl)
          clear h62 h44
          go_wp2_with (first
            | (go_at_call 43; refine (r06Tok_any toks A c B _ _ (by repeat (first | exact hl | exact hp | apply SlB.alloc | apply SlB.ext)) hn).mono ?_; rintro e w' ⟨rfl, hq⟩; obtain ⟨yh, yd, rfl⟩ := hq)
            | (go_at_call 45; refine (r07word_any _ _ _ _ hokt).mono ?_; rintro e w' ⟨rfl, hq⟩; obtain ⟨zh, zd, rfl⟩ := hq; rw [show knownO ⟨(tokAt toks (w64 (a1 + 1))).kind, (tokAt toks (w64 (a1 + 1))).text, (tokAt toks (w64 (a1 + 1))).pos⟩ = _ from HKV.out])
            | (go_at_call 47; refine (r07named_any ps PA pc B _ _ _ _ (by repeat (first | exact hl | exact hp | apply SlB.alloc | apply SlB.ext)) hm).mono ?_; rintro e w' ⟨rfl, hq⟩; obtain ⟨uh, ud, rfl⟩ := hq; rw [rfl])
            | (go_at_call 48; refine (r07wrong_any toks A c B _ _ _ (by repeat (first | exact hl | exact hp | apply SlB.alloc | apply SlB.ext)) hn).mono ?_; rintro e w' ⟨rfl, hq⟩; obtain ⟨vh, vd, rfl⟩ := hq)
            | (go_at_call 44; refine (r03Is_any _ _ _ _ _).mono ?_; rintro e w' ⟨rfl, hq⟩; obtain ⟨sh, sd, rfl⟩ := hq; first | rw [show isW ⟨(tokAt toks (w64 (w64 (a1 + 1) + 1))).kind, (tokAt toks (w64 (w64 (a1 + 1) + 1))).text, (tokAt toks (w64 (w64 (a1 + 1) + 1))).pos⟩ (⟨#[62]⟩ : ByteArray).data.toList = _ from H62.out] | rw [show isW ⟨(tokAt toks (w64 (w64 (a1 + 1) + 1))).kind, (tokAt toks (w64 (w64 (a1 + 1) + 1))).text, (tokAt toks (w64 (w64 (a1 + 1) + 1))).pos⟩ (⟨#[44]⟩ : ByteArray).data.toList = _ from H44.out])
            | (at_builtin
               refine wpList_append_own _ rfl _ _ 63 rfl (w.heap.size + 1) 57 i0 _ 2 16 Try.underlying63 hi0 hz0 hz1 hz2 rfl (by decide) (.slice Ao acc.length co) acc.length (acc.flatMap ownC) rfl (((own_ext ((own_ext hown _ _).alloc _) _ _).alloc _).alloc _) ⟨zh.size + (yh.size + (xh.size + (w.heap.size + 1)) + 1) + 1, 0, none⟩ 1 1 [.int .i64 kv, .int .i64 0] rfl rfl ?c1 ?c2 ?c3 ?c4 ?c5 ?_
               case c1 => exact news_alloc _ #[_, _] _ _ (by simp [wext_size])
               case c2 => simp [Value.oneCell']
               case c3 => simp only [maxLen]; omega
               case c4 => omega
               case c5 => simp [wext_size]; omega
               intro v' w1 hown1 hgrow _
               obtain ⟨ph, pd, rfl⟩ : Grw (w.alloc (.cells (got7 (.slice none 0 0) Ty.zero 0 0 0) 67)) w1 := Grw.grown (by first | exact Grw.refl _ | (repeat (first | exact Grw.refl _ | apply Grw.ext | apply Grw.alloc | apply Grw.drewN | apply Grw.drew)); done) hgrow (fun k hk => by have := hown.lt k hk; simp; omega)
               obtain ⟨gg, cap, rfl, _, _⟩ := hown1.form (by omega)))
          simp only [wext_wext]
          go_roundw
          case rel => exact ⟨w64 (w64 (a1 + 1) + 1), f, cap, some ⟨gg, 0, none⟩, acc ++ [(kv, 0)], _, _, I64_w64 _, rfl, by simp; omega, by simp; omega, HR2.out, by rw [List.length_append]; rfl, rfl, by
            rw [List.length_append, List.flatMap_append]; repeat (first | exact own_d hown1 | refine own_app (d := 0) ?_)⟩
          case measure => simp [slLen]; omega
      · have H62 := Lib.hid h62
        have H44 := Lib.hid (isW_other h62 (show ([62] : List UInt8) ≠ [44] by decide))
        have HR2 := Lib.hid (show ownsL toks ps at_ = (acc ++ [(kv, 0)], w64 (w64 (w64 (a1 + 1) + 1) + 1), 0, 0) by rw [HR.out, ownsT, H44.out, h62]; rfl)
        clear h62
        go_wp2_with (first
          | (go_at_call 43; refine (r06Tok_any toks A c B _ _ (by repeat (first | exact hl | exact hp | apply SlB.alloc | apply SlB.ext)) hn).mono ?_; rintro e w' ⟨rfl, hq⟩; obtain ⟨yh, yd, rfl⟩ := hq)
          | (go_at_call 45; refine (r07word_any _ _ _ _ hokt).mono ?_; rintro e w' ⟨rfl, hq⟩; obtain ⟨zh, zd, rfl⟩ := hq; rw [show knownO ⟨(tokAt toks (w64 (a1 + 1))).kind, (tokAt toks (w64 (a1 + 1))).text, (tokAt toks (w64 (a1 + 1))).pos⟩ = _ from HKV.out])
          | (go_at_call 47; refine (r07named_any ps PA pc B _ _ _ _ (by repeat (first | exact hl | exact hp | apply SlB.alloc | apply SlB.ext)) hm).mono ?_; rintro e w' ⟨rfl, hq⟩; obtain ⟨uh, ud, rfl⟩ := hq; rw [rfl])
          | (go_at_call 48; refine (r07wrong_any toks A c B _ _ _ (by repeat (first | exact hl | exact hp | apply SlB.alloc | apply SlB.ext)) hn).mono ?_; rintro e w' ⟨rfl, hq⟩; obtain ⟨vh, vd, rfl⟩ := hq)
          | (go_at_call 44; refine (r03Is_any _ _ _ _ _).mono ?_; rintro e w' ⟨rfl, hq⟩; obtain ⟨sh, sd, rfl⟩ := hq; first | rw [show isW ⟨(tokAt toks (w64 (w64 (a1 + 1) + 1))).kind, (tokAt toks (w64 (w64 (a1 + 1) + 1))).text, (tokAt toks (w64 (w64 (a1 + 1) + 1))).pos⟩ (⟨#[62]⟩ : ByteArray).data.toList = _ from H62.out] | rw [show isW ⟨(tokAt toks (w64 (w64 (a1 + 1) + 1))).kind, (tokAt toks (w64 (w64 (a1 + 1) + 1))).text, (tokAt toks (w64 (w64 (a1 + 1) + 1))).pos⟩ (⟨#[44]⟩ : ByteArray).data.toList = _ from H44.out])
          | (at_builtin
             refine wpList_append_own _ rfl _ _ 63 rfl (w.heap.size + 1) 57 i0 _ 2 16 Try.underlying63 hi0 hz0 hz1 hz2 rfl (by decide) (.slice Ao acc.length co) acc.length (acc.flatMap ownC) rfl (((own_ext ((own_ext hown _ _).alloc _) _ _).alloc _).alloc _) ⟨zh.size + (yh.size + (xh.size + (w.heap.size + 1)) + 1) + 1, 0, none⟩ 1 1 [.int .i64 kv, .int .i64 0] rfl rfl ?c1 ?c2 ?c3 ?c4 ?c5 ?_
             case c1 => exact news_alloc _ #[_, _] _ _ (by simp [wext_size])
             case c2 => simp [Value.oneCell']
             case c3 => simp only [maxLen]; omega
             case c4 => omega
             case c5 => simp [wext_size]; omega
             intro v' w1 hown1 hgrow _
             obtain ⟨ph, pd, rfl⟩ : Grw (w.alloc (.cells (got7 (.slice none 0 0) Ty.zero 0 0 0) 67)) w1 := Grw.grown (by first | exact Grw.refl _ | (repeat (first | exact Grw.refl _ | apply Grw.ext | apply Grw.alloc | apply Grw.drewN | apply Grw.drew)); done) hgrow (fun k hk => by have := hown.lt k hk; simp; omega)
             obtain ⟨gg, cap, rfl, _, _⟩ := hown1.form (by omega)))
        refine bodyPost_ret (v := .agg (got7 (.slice (some ⟨gg, 0, none⟩) (acc.length + 1) cap) Ty.zero (w64 (w64 (w64 (a1 + 1) + 1) + 1)) 0 0)) ?_ rfl (by
                  rw [HR2.out]
                  refine ⟨some ⟨gg, 0, none⟩, cap, by rw [List.length_append]; rfl, by first | exact Grw.refl _ | (repeat (first | exact Grw.refl _ | apply Grw.ext | apply Grw.alloc | apply Grw.drewN | apply Grw.drew)); done, ?_⟩
                  rw [List.length_append, List.flatMap_append]
                  refine own_base (base := w.heap.size + 1) ?_ (by omega)
                  repeat (first | exact own_swap hown1 (fun b hb => heap_swap w _ _ _ _ b hb) | apply own_ext))
        rw [results7 Try.results23 _ _ _ rfl (by simp [go_sem])]
        simp [go_sem]
end
end Go.Proofs.YtnindeoemfgkeaaRRRR
