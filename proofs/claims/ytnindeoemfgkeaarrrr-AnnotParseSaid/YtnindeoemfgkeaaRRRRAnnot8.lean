/- Contracts of annot's typ, whole; annot.Parse, annot.Owners. -/
import Derived.Test.YtnindeoemfgkeaaRRRRAnnot7b
import Derived.Test.YtnindeoemfgkeaaRRRRAnnot7c
import Derived.Test.YtnindeoemfgkeaaRRRRAnnot7d
import Derived.BigRegion
namespace Go.Proofs.YtnindeoemfgkeaaRRRR
open Go.RowKit
section
variable (toks : List Tok) (ps : List (List UInt8)) (A PA : Option Addr) (c pc g B : Nat) (at_ fe fa k : Int) (w : World)
theorem aTyp_sb (nm : Bool) (hr : Rd toks ps A PA B g w) (ha : I64 at_) :
    Calls Try.prog 42 #[.pointer (some ⟨g, 0, none⟩), .bool nm] (sb w g 109 #[.slice A toks.length c, .int .i64 (at_), .slice PA ps.length pc, .int .i64 (fe), .int .i64 (fa)]) (TypPost toks ps A PA c pc g fe fa w (parseL toks ps at_ nm)) := by
  unfold parseL
  cases hv : isW (tokAt toks at_) [118, 111, 105, 100]
  · cases hi : isW (tokAt toks at_) [105, 110, 116]
    · simp only [Bool.false_eq_true, if_false]
      by_cases hk : knownO (tokAt toks at_) = 0
      · rw [if_neg (fun h => h hk)]
        by_cases h1 : (tokAt toks at_).kind = 1
        · cases hah : aheadL toks at_ nm
          · rw [if_neg (by simp)]
            cases hl : isW (tokAt toks (w64 (at_ + 1))) [60]
            · exact aTyp_h2b toks ps A PA c pc g B at_ fe fa w nm hr ha hv hi hk h1 hah hl
            · by_cases ho : (ownsL toks ps (w64 (at_ + 1))).2.2.1 = 0
              · exact aTyp_h2d toks ps A PA c pc g B at_ fe fa w nm hr ha hv hi hk h1 hah hl ho
              · exact aTyp_h2c toks ps A PA c pc g B at_ fe fa w nm hr ha hv hi hk h1 hah hl ho
          · rw [if_pos ⟨h1, rfl⟩]
            by_cases h0 : idxIn (tokAt toks at_).text ps 0 = 0
            · rw [if_pos h0]
              exact aTyp_perr toks ps A PA c pc g B at_ fe fa w nm hr ha hv hi hk h1 hah h0
            · rw [if_neg h0]
              by_cases hc : (tokAt toks (w64 (at_ + 1))).kind = 1
              · cases hl : isW (tokAt toks (w64 ((w64 (at_ + 1)) + 1))) [60]
                · exact aTyp_nmb toks ps A PA c pc g B at_ fe fa w nm hr ha hv hi hk h1 hah h0 hc hl
                · by_cases ho : (ownsL toks ps (w64 ((w64 (at_ + 1)) + 1))).2.2.1 = 0
                  · exact aTyp_nmd toks ps A PA c pc g B at_ fe fa w nm hr ha hv hi hk h1 hah h0 hc hl ho
                  · exact aTyp_nmc toks ps A PA c pc g B at_ fe fa w nm hr ha hv hi hk h1 hah h0 hc hl ho
              · exact aTyp_nma toks ps A PA c pc g B at_ fe fa w nm hr ha hv hi hk h1 hah h0 hc
        · rw [if_neg (fun h => h1 h.1)]
          exact aTyp_h1a toks ps A PA c pc g B at_ fe fa w nm hr ha hv hi hk h1
      · rw [if_pos hk]
        by_cases hc : (tokAt toks (w64 (at_ + 1))).kind = 1
        · cases hl : isW (tokAt toks (w64 ((w64 (at_ + 1)) + 1))) [60]
          · exact aTyp_kwb toks ps A PA c pc g B at_ fe fa w nm hr ha hv hi hk hc hl
          · by_cases ho : (ownsL toks ps (w64 ((w64 (at_ + 1)) + 1))).2.2.1 = 0
            · exact aTyp_kwd toks ps A PA c pc g B at_ fe fa w nm hr ha hv hi hk hc hl ho
            · exact aTyp_kwc toks ps A PA c pc g B at_ fe fa w nm hr ha hv hi hk hc hl ho
        · exact aTyp_kwa toks ps A PA c pc g B at_ fe fa w nm hr ha hv hi hk hc
    · rw [if_neg (by simp), if_pos rfl]
      exact aTyp_int toks ps A PA c pc g B at_ fe fa w nm hr ha hv hi
  · rw [if_pos rfl]
    exact aTyp_void toks ps A PA c pc g B at_ fe fa w nm hr ha hv
theorem aTyp_any (nm : Bool) (hr : Rd toks ps A PA B g w) (hb : w.heap[g]? = some (.cells #[.slice A toks.length c, .int .i64 (at_), .slice PA ps.length pc, .int .i64 (fe), .int .i64 (fa)] 109)) (ha : I64 at_) :
    Calls Try.prog 42 #[.pointer (some ⟨g, 0, none⟩), .bool nm] w (TypPost toks ps A PA c pc g fe fa w (parseL toks ps at_ nm)) := by
  have := aTyp_sb toks ps A PA c pc g B at_ fe fa w nm hr ha
  rw [sb_self w g _ _ hb] at this
  exact this
theorem parseB_err (o : Int × Int) : ((parseB toks ps at_ o).2.2.1 ≠ 0 → (parseB toks ps at_ o).1 = Ty.zero ∧ (parseB toks ps at_ o).2.1 = 0) ∧ ((parseB toks ps at_ o).2.2.1 = 0 → (parseB toks ps at_ o).2.2.2 = 0) := by
  unfold parseB
  split
  · split
    · split
      · exact ⟨fun h => absurd rfl h, fun _ => rfl⟩
      · rename_i h; exact ⟨fun _ => ⟨rfl, rfl⟩, fun h2 => absurd h2 h⟩
    · exact ⟨fun h => absurd rfl h, fun _ => rfl⟩
  · exact ⟨fun _ => ⟨rfl, rfl⟩, fun h => absurd h (by simp)⟩
theorem parseL_err (nm : Bool) : ((parseL toks ps at_ nm).2.2.1 ≠ 0 → (parseL toks ps at_ nm).1 = Ty.zero ∧ (parseL toks ps at_ nm).2.1 = 0) ∧ ((parseL toks ps at_ nm).2.2.1 = 0 → (parseL toks ps at_ nm).2.2.2 = 0) := by
  unfold parseL
  split
  · exact ⟨fun h => absurd rfl h, fun _ => rfl⟩
  · split
    · exact ⟨fun h => absurd rfl h, fun _ => rfl⟩
    · split
      · exact parseB_err toks ps _ _
      · split
        · split
          · exact ⟨fun _ => ⟨rfl, rfl⟩, fun h => absurd h (by simp)⟩
          · exact parseB_err toks ps _ _
        · exact parseB_err toks ps _ _
/-- What Parse needs of a world: its tokens and its parameters lie in it. -/
structure In (w : World) : Prop where
  hl : SlB Tok.cells 3 w w.heap.size A toks
  hp : SlB strC 1 w w.heap.size PA ps
  hn : toks.length ≤ 1000000
  hm : ps.length ≤ 1000000
theorem In.rd {w w1 : World} {g : Nat} (h : In toks ps A PA w) (hg : g < w1.heap.size) (hw : w.heap.size ≤ g) (gr : Grw w w1) : Rd toks ps A PA w.heap.size g w1 := ⟨hg, hw, h.hl.grw gr, h.hp.grw gr, h.hn, h.hm⟩
set_option maxRecDepth 100000 in
set_option maxHeartbeats 4000000 in
theorem anParse_any (nm : Bool) (hi : In toks ps A PA w) (ha : I64 at_) :
    Calls Try.prog 20 #[.slice A toks.length c, .int .i64 at_, .slice PA ps.length pc, .bool nm] w fun e w' =>
      e = .returned (.tuple #[.agg (parseL toks ps at_ nm).1.arr, .int .i64 (parseL toks ps at_ nm).2.1, .agg #[.int .i64 (parseL toks ps at_ nm).2.2.1, .int .i64 (parseL toks ps at_ nm).2.2.2]]) ∧ Grw w w' := by
  obtain ⟨T, nx, x, p, hR⟩ : ∃ T nx x p, parseL toks ps at_ nm = (T, nx, x, p) := ⟨_, _, _, _, rfl⟩
  have he := parseL_err toks ps at_ nm
  rw [hR] at he
  dsimp only at he
  by_cases hx : x = 0
  · have hp0 := he.2 hx
    subst hx; subst hp0
    have HR := Lib.hid hR
    rw [hR]
    clear hR he
    go_enter Try.func20, Try.ntmps20
    go_wp2_with fail
    refine (aTyp_any toks ps A PA c pc (w.heap.size + 1 + 1) w.heap.size at_ 0 0 _ nm (hi.rd _ _ _ _ (by simp) (by omega) (by first | exact Grw.refl _ | (repeat (first | exact Grw.refl _ | apply Grw.ext | apply Grw.alloc | apply Grw.drewN | apply Grw.drew)); done)) (by exact block_alloc _ _ _ (by simp)) ha).mono ?_
    rw [HR.out]
    rintro e w' hq
    obtain ⟨rfl, hq2⟩ := hq.1 rfl
    clear hq
    obtain ⟨xh, xd, rfl⟩ := hq2
    dsimp only [Ty.arr]
    go_wp2
    go_region
    go_wp2
    exact bodyPost_ret (v := .tuple #[.agg #[.int .i64 T.kind, .string (bs T.cls), .int .i64 T.n, .int .i64 T.o0.1, .int .i64 T.o0.2, .int .i64 T.o1.1, .int .i64 T.o1.2, .int .i64 T.o2.1, .int .i64 T.o2.2, .int .i64 T.o3.1, .int .i64 T.o3.2], .int .i64 nx, .agg #[.int .i64 0, .int .i64 0]]) (by simp [results, Try.results20, go_sem]) rfl ⟨rfl, by first | exact Grw.refl _ | (repeat (first | exact Grw.refl _ | apply Grw.ext | apply Grw.alloc | apply Grw.drewN | apply Grw.drew)); done⟩
  · obtain ⟨rfl, rfl⟩ := he.1 hx
    have HR := Lib.hid hR
    have HX := Lib.hid hx
    rw [hR]
    clear hR he hx
    go_enter Try.func20, Try.ntmps20
    go_wp2_with fail
    refine (aTyp_any toks ps A PA c pc (w.heap.size + 1 + 1) w.heap.size at_ 0 0 _ nm (hi.rd _ _ _ _ (by simp) (by omega) (by first | exact Grw.refl _ | (repeat (first | exact Grw.refl _ | apply Grw.ext | apply Grw.alloc | apply Grw.drewN | apply Grw.drew)); done)) (by exact block_alloc _ _ _ (by simp)) ha).mono ?_
    rw [HR.out]
    rintro e w' hq
    obtain ⟨rfl, a9, hq2⟩ := hq.2 HX.out
    clear hq
    obtain ⟨xh, xd, rfl⟩ := hq2
    dsimp only [Ty.arr]
    go_wp2
    go_region
    go_wp2
    exact bodyPost_ret (v := .tuple #[.agg #[.int .i64 0, .string ⟨#[]⟩, .int .i64 0, .int .i64 0, .int .i64 0, .int .i64 0, .int .i64 0, .int .i64 0, .int .i64 0, .int .i64 0, .int .i64 0], .int .i64 0, .agg #[.int .i64 x, .int .i64 p]]) (by simp [results, Try.results20, go_sem]) rfl ⟨rfl, by first | exact Grw.refl _ | (repeat (first | exact Grw.refl _ | apply Grw.ext | apply Grw.alloc | apply Grw.drewN | apply Grw.drew)); done⟩
/-- What Owners leaves: owners, place behind, fault. -/
def OwnsA (R : List (Int × Int) × Int × Int × Int) (e : Ending) (w' : World) : Prop :=
  ∃ A' c', e = .returned (.tuple #[.slice A' R.1.length c', .int .i64 R.2.1, .agg #[.int .i64 R.2.2.1, .int .i64 R.2.2.2]]) ∧ Grw w w' ∧ w'.ownsRow w.heap.size 57 2 (.slice A' R.1.length c') R.1.length (R.1.flatMap ownC)
theorem ownsF_err : ∀ (f : Nat) (a : Int) (out : List (Int × Int)), ((ownsF toks ps f a out).2.2.1 ≠ 0 → (ownsF toks ps f a out).1 = [] ∧ (ownsF toks ps f a out).2.1 = 0) ∧ ((ownsF toks ps f a out).2.2.1 = 0 → (ownsF toks ps f a out).2.2.2 = 0)
  | 0, _, _ => ⟨fun _ => ⟨rfl, rfl⟩, fun _ => rfl⟩
  | f + 1, a, out => by
    unfold ownsF
    split
    · split
      · exact ownsF_err f _ _
      · split
        · exact ⟨fun h => absurd rfl h, fun _ => rfl⟩
        · exact ⟨fun _ => ⟨rfl, rfl⟩, fun h => absurd h (by simp)⟩
    · rename_i h; exact ⟨fun _ => ⟨rfl, rfl⟩, fun h2 => absurd h2 h⟩
theorem ownsL_err : ((ownsL toks ps at_).2.2.1 ≠ 0 → (ownsL toks ps at_).1 = [] ∧ (ownsL toks ps at_).2.1 = 0) ∧ ((ownsL toks ps at_).2.2.1 = 0 → (ownsL toks ps at_).2.2.2 = 0) := by
  unfold ownsL
  split
  · exact ownsF_err toks ps _ _ _
  · exact ⟨fun _ => ⟨rfl, rfl⟩, fun h => absurd h (by simp)⟩
theorem own_mono {w1 : World} {base base' : Nat} {e : TypeId} {size n : Nat} {v : Value} {xs : List Value} (hown : w1.ownsRow base e size v n xs) (hb : base' ≤ base) : w1.ownsRow base' e size v n xs := own_base hown hb
set_option maxRecDepth 100000 in
set_option maxHeartbeats 4000000 in
theorem anOwners_any (hi : In toks ps A PA w) (ha : I64 at_) :
    Calls Try.prog 22 #[.slice A toks.length c, .int .i64 at_, .slice PA ps.length pc] w (OwnsA w (ownsL toks ps at_)) := by
  obtain ⟨L, nx, x, p, hR⟩ : ∃ L nx x p, ownsL toks ps at_ = (L, nx, x, p) := ⟨_, _, _, _, rfl⟩
  have he := ownsL_err toks ps at_
  rw [hR] at he
  dsimp only at he
  by_cases hx : x = 0
  · have hp0 := he.2 hx
    subst hx; subst hp0
    have HR := Lib.hid hR
    rw [hR]
    clear hR he
    go_enter Try.func22, Try.ntmps22
    go_wp2_with fail
    refine (aOwners_any toks ps A PA c pc (w.heap.size + 1) w.heap.size at_ 0 0 _ (hi.rd _ _ _ _ (by simp) (by omega) (by first | exact Grw.refl _ | (repeat (first | exact Grw.refl _ | apply Grw.ext | apply Grw.alloc | apply Grw.drewN | apply Grw.drew)); done)) (by exact block_alloc _ _ _ (by simp)) ha).mono ?_
    unfold OwnsPost
    rw [HR.out]
    rintro e w' hq
    obtain ⟨A', c', rfl, hq2, hown⟩ := hq.1 rfl
    clear hq
    obtain ⟨xh, xd, rfl⟩ := hq2
    dsimp only
    go_wp2
    go_region
    go_wp2
    exact bodyPost_ret (v := .tuple #[.slice A' L.length c', .int .i64 nx, .agg #[.int .i64 0, .int .i64 0]]) (by simp [results, Try.results22, go_sem]) rfl (by rw [sb_alloc_at _ _ _ _ _ _ (by simp)] at hown; exact ⟨A', c', rfl, by first | exact Grw.refl _ | (repeat (first | exact Grw.refl _ | apply Grw.ext | apply Grw.alloc | apply Grw.drewN | apply Grw.drew)); done, own_base (own_drewN hown 1) (by simp; omega)⟩)
  · obtain ⟨rfl, rfl⟩ := he.1 hx
    have HR := Lib.hid hR
    have HX := Lib.hid hx
    rw [hR]
    clear hR he hx
    go_enter Try.func22, Try.ntmps22
    go_wp2_with fail
    refine (aOwners_any toks ps A PA c pc (w.heap.size + 1) w.heap.size at_ 0 0 _ (hi.rd _ _ _ _ (by simp) (by omega) (by first | exact Grw.refl _ | (repeat (first | exact Grw.refl _ | apply Grw.ext | apply Grw.alloc | apply Grw.drewN | apply Grw.drew)); done)) (by exact block_alloc _ _ _ (by simp)) ha).mono ?_
    unfold OwnsPost
    rw [HR.out]
    rintro e w' hq
    obtain ⟨rfl, a9, hq2⟩ := hq.2 HX.out
    clear hq
    obtain ⟨xh, xd, rfl⟩ := hq2
    go_wp2
    go_region
    go_wp2
    exact bodyPost_ret (v := .tuple #[.slice none 0 0, .int .i64 0, .agg #[.int .i64 x, .int .i64 p]]) (by simp [results, Try.results22, go_sem]) rfl ⟨none, 0, rfl, by first | exact Grw.refl _ | (repeat (first | exact Grw.refl _ | apply Grw.ext | apply Grw.alloc | apply Grw.drewN | apply Grw.drew)); done, World.ownsRow_nil _ _ _ _⟩
end
end Go.Proofs.YtnindeoemfgkeaaRRRR
