/- Contract of layer 51 (witness): cases. -/
import Derived.Test.YtnindeoemfgkeaaRRRRWit1
namespace Go.Proofs.YtnindeoemfgkeaaRRRR
open Go.RowKit
def wIn : List UInt8 := [99, 108, 97, 115, 115, 32, 65, 32, 123, 32, 105, 110, 116, 32, 110, 59, 32, 114, 101, 112, 32, 65, 32, 105, 110, 59, 32, 118, 111, 105, 100, 32, 103, 111, 40, 41, 32, 123, 32, 114, 101, 112, 32, 65, 32, 120, 59, 32, 120, 32, 61, 32, 110, 101, 119, 32, 114, 101, 112, 32, 65, 59, 32, 116, 104, 105, 115, 46, 105, 110, 32, 61, 32, 120, 59, 32, 125, 32]
theorem wProgram_r1 (body c : ByteArray) (b : Nat) (w : World) (h0 : w.cell? ⟨b, 0, none⟩ = some (.string c)) (hb : b < w.heap.size) (hbd : body.size ≤ 1000000) (hl : (Lib.join ([c].map (·.data.toList)) [32]).length ≤ 1000000) :
    Calls Try.prog 61 #[.string body, .slice (some ⟨b, 0, none⟩) 1 1] w fun e w' => ∃ r, e = .returned (.string r) ∧ Hid (r = progS body [c]) ∧ Grw w w' :=
  (wProgram_one body c b w h0 hb hbd hl).mono fun e w' ⟨he, hg⟩ => ⟨_, he, Lib.hid rfl, hg⟩
theorem wProgram_r2 (body c d : ByteArray) (b : Nat) (w : World) (h0 : w.cell? ⟨b, 0, none⟩ = some (.string c)) (h1 : w.cell? ⟨b, 1, none⟩ = some (.string d)) (hb : b < w.heap.size) (hbd : body.size ≤ 1000000) (hl : (Lib.join ([c, d].map (·.data.toList)) [32]).length ≤ 1000000) :
    Calls Try.prog 61 #[.string body, .slice (some ⟨b, 0, none⟩) 2 2] w fun e w' => ∃ r, e = .returned (.string r) ∧ Hid (r = progS body [c, d]) ∧ Grw w w' :=
  (wProgram_two body c d b w h0 h1 hb hbd hl).mono fun e w' ⟨he, hg⟩ => ⟨_, he, Lib.hid rfl, hg⟩
theorem strTrim_r (s p : ByteArray) (w : World) (hs : s.size ≤ 9223372036854775807) :
    Calls Try.prog 62 #[.string s, .string p] w fun e w' => ∃ r, e = .returned (.string r) ∧ Hid (r = ⟨(Lib.trimSuffix s.data.toList p.data.toList).toArray⟩) ∧ w' = w :=
  (Try.strings_TrimSuffix s p w hs).mono fun e w' ⟨he, hg⟩ => ⟨_, he, Lib.hid rfl, hg⟩
set_option maxHeartbeats 4000000 in
set_option maxRecDepth 100000 in
theorem wCases_any (w : World) : Calls Try.prog 37 #[] w fun e w' => ∃ w1, Grw w w1 ∧ e = .returned (.slice (some ⟨w1.heap.size, 0, none⟩) 6 6) ∧ w' = w1.alloc (.cells (wCases.flatMap wcC).toArray 40) := by
  have hg : Grw w w := Grw.refl w
  go_enter Try.func37, Try.ntmps37
  go_wp2_with fail
  refine (wProgram_r1 _ _ _ _ ((World.cell?_alloc_new _ _ _ _).trans rfl) (by simp) (by decide +kernel) (by decide +kernel)).mono ?_
  rintro e w1 ⟨r1, rfl, hr1, hq⟩
  replace hg := Grw.trans (hg.alloc _) hq
  clear hq
  go_wp2_with fail
  refine (wProgram_r1 _ _ _ _ ((World.cell?_alloc_new _ _ _ _).trans rfl) (by simp) (by decide +kernel) (by decide +kernel)).mono ?_
  rintro e w2 ⟨r2, rfl, hr2, hq⟩
  replace hg := Grw.trans (hg.alloc _) hq
  clear hq
  go_wp2_with fail
  refine (wProgram_r1 _ _ _ _ ((World.cell?_alloc_new _ _ _ _).trans rfl) (by simp) (by decide +kernel) (by decide +kernel)).mono ?_
  rintro e w3 ⟨r3, rfl, hr3, hq⟩
  replace hg := Grw.trans (hg.alloc _) hq
  clear hq
  go_wp2_with fail
  refine (wProgram_r1 _ _ _ _ ((World.cell?_alloc_new _ _ _ _).trans rfl) (by simp) (by decide +kernel) (by decide +kernel)).mono ?_
  rintro e w4 ⟨r4, rfl, hr4, hq⟩
  replace hg := Grw.trans (hg.alloc _) hq
  clear hq
  go_wp2_with fail
  refine (wProgram_r2 _ _ _ _ _ ((World.cell?_alloc_new _ _ _ _).trans rfl) ((World.cell?_alloc_new _ _ _ _).trans rfl) (by simp) (by decide +kernel) (by decide +kernel)).mono ?_
  rintro e w5 ⟨r5, rfl, hr5, hq⟩
  replace hg := Grw.trans (hg.alloc _) hq
  clear hq
  go_wp2_with fail
  refine (wProgram_r2 _ _ _ _ _ ((World.cell?_alloc_new _ _ _ _).trans rfl) ((World.cell?_alloc_new _ _ _ _).trans rfl) (by simp) (by decide +kernel) (by decide +kernel)).mono ?_
  rintro e w6 ⟨r6, rfl, hr6, hq⟩
  replace hg := Grw.trans (hg.alloc _) hq
  clear hq
  go_wp2_with fail
  refine (wProgram_r1 _ _ _ _ ((World.cell?_alloc_new _ _ _ _).trans rfl) (by simp) (by decide +kernel) (by decide +kernel)).mono ?_
  rintro e w7 ⟨r7, rfl, hr7, hq⟩
  replace hg := Grw.trans (hg.alloc _) hq
  clear hq
  go_wp2_with fail
  refine (strTrim_r _ _ _ (by decide +kernel)).mono ?_
  rintro e w7b ⟨r7b, rfl, hr7b, rfl⟩
  obtain rfl : r7b = bs wIn := hr7b.out.trans (by kernel_rfl)
  have hin : (bs wIn).size = 78 := rfl
  go_wp2_with fail
  refine (wProgram_r1 _ _ _ _ ((World.cell?_alloc_new _ _ _ _).trans rfl) (by simp) (by decide +kernel) (by decide +kernel)).mono ?_
  rintro e w8 ⟨r8, rfl, hr8, hq⟩
  replace hg := Grw.trans (hg.alloc _) hq
  clear hq
  go_wp2_with fail
  refine (wProgram_r2 _ _ _ _ _ ((World.cell?_alloc_new _ _ _ _).trans rfl) ((World.cell?_alloc_new _ _ _ _).trans rfl) (by simp) (by decide +kernel) (by decide +kernel)).mono ?_
  rintro e w9 ⟨r9, rfl, hr9, hq⟩
  replace hg := Grw.trans (hg.alloc _) hq
  clear hq
  go_wp2_with fail
  refine (wProgram_r2 _ _ _ _ _ ((World.cell?_alloc_new _ _ _ _).trans rfl) ((World.cell?_alloc_new _ _ _ _).trans rfl) (by simp) (by decide +kernel) (by decide +kernel)).mono ?_
  rintro e w10 ⟨r10, rfl, hr10, hq⟩
  replace hg := Grw.trans (hg.alloc _) hq
  clear hq
  go_wp2_with fail
  refine (wProgram_r1 _ _ _ _ ((World.cell?_alloc_new _ _ _ _).trans rfl) (by simp) (by decide +kernel) (by decide +kernel)).mono ?_
  rintro e w11 ⟨r11, rfl, hr11, hq⟩
  replace hg := Grw.trans (hg.alloc _) hq
  clear hq
  go_wp2_with fail
  refine (wProgram_r1 _ _ _ _ ((World.cell?_alloc_new _ _ _ _).trans rfl) (by simp) (by decide +kernel) (by decide +kernel)).mono ?_
  rintro e w12 ⟨r12, rfl, hr12, hq⟩
  replace hg := Grw.trans (hg.alloc _) hq
  clear hq
  go_wp2_with fail
  go_ret
  have q1 : r1 = bs wT0 := hr1.out.trans (by kernel_rfl)
  have q2 : r2 = bs wM0 := hr2.out.trans (by kernel_rfl)
  have q3 : r3 = bs wT1 := hr3.out.trans (by kernel_rfl)
  have q4 : r4 = bs wM1 := hr4.out.trans (by kernel_rfl)
  have q5 : r5 = bs wT2 := hr5.out.trans (by kernel_rfl)
  have q6 : r6 = bs wM2 := hr6.out.trans (by kernel_rfl)
  have q7 : r7 = bs wT3 := hr7.out.trans (by kernel_rfl)
  have q8 : r8 = bs wM3 := hr8.out.trans (by kernel_rfl)
  have q9 : r9 = bs wT4 := hr9.out.trans (by kernel_rfl)
  have q10 : r10 = bs wM4 := hr10.out.trans (by kernel_rfl)
  have q11 : r11 = bs wT5 := hr11.out.trans (by kernel_rfl)
  have q12 : r12 = bs wM5 := hr12.out.trans (by kernel_rfl)
  refine ⟨w12, hg, rfl, ?_⟩
  rw [q1, q2, q3, q4, q5, q6, q7, q8, q9, q10, q11, q12]
  rfl
end Go.Proofs.YtnindeoemfgkeaaRRRR
