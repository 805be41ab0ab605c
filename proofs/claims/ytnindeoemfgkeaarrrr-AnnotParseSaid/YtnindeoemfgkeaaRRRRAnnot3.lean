/- Contracts of annot's reader: is, bad, param, one. -/
import Derived.Test.YtnindeoemfgkeaaRRRRAnnot2
import Derived.Deep.RegionHeld3
namespace Go.Proofs.YtnindeoemfgkeaaRRRR
open Go.RowKit

@[go_sem] theorem fld_Token0 (x0 x1 x2 : Value) (w : World) : (Instr.field 102 (.agg #[x0, x1, x2]) 0).run Try.prog w = .ok x0 w := by kernel_rfl
@[go_sem] theorem fld_Token1 (x0 x1 x2 : Value) (w : World) : (Instr.field 102 (.agg #[x0, x1, x2]) 1).run Try.prog w = .ok x1 w := by kernel_rfl
@[go_sem] theorem fld_Token2 (x0 x1 x2 : Value) (w : World) : (Instr.field 102 (.agg #[x0, x1, x2]) 2).run Try.prog w = .ok x2 w := by kernel_rfl
theorem blk_sb (w : World) (g : Nat) (t : TypeId) (cs : Array Value) (h : g < w.heap.size) : (sb w g t cs).heap[g]? = some (.cells cs t) := sb_get_same w g t cs h
theorem blk_lt {w : World} {g : Nat} {o : Obj} (h : w.heap[g]? = some o) : g < w.heap.size := by
  rcases Nat.lt_or_ge g w.heap.size with hl | hl
  · exact hl
  · rw [Array.getElem?_eq_none hl] at h; cases h
theorem blk_ext {w : World} {g : Nat} {o : Obj} {xh : Array Obj} {xd : Nat} (h : w.heap[g]? = some o) : (wext w xh xd).heap[g]? = some o := by
  rw [wext_heap_lt _ _ _ _ (blk_lt h)]; exact h
theorem blk_alloc {w : World} {g : Nat} {o o' : Obj} (h : w.heap[g]? = some o) : (w.alloc o').heap[g]? = some o := by
  rw [Below.heap_alloc _ _ _ (blk_lt h)]; exact h
theorem blk_drewN {w : World} {g n : Nat} {o : Obj} (h : w.heap[g]? = some o) : (w.drewN n).heap[g]? = some o := h
theorem blk_drew {w : World} {g : Nat} {o : Obj} (h : w.heap[g]? = some o) : w.drew.heap[g]? = some o := h
/-- What a reader needs of a world: its tokens and its parameters lie below its block. -/
structure Rd (toks : List Tok) (ps : List (List UInt8)) (A PA : Option Addr) (B g : Nat) (w : World) : Prop where
  hg : g < w.heap.size
  hB : B ≤ g
  hl : SlB Tok.cells 3 w B A toks
  hp : SlB strC 1 w B PA ps
  hn : toks.length ≤ 1000000
  hm : ps.length ≤ 1000000
section
variable {toks : List Tok} {ps : List (List UInt8)} {A PA : Option Addr} {B g : Nat} {w : World}
theorem Rd.ext (h : Rd toks ps A PA B g w) {xh : Array Obj} {xd : Nat} : Rd toks ps A PA B g (wext w xh xd) := ⟨by rw [wext_size]; have := h.hg; omega, h.hB, h.hl.ext _ _, h.hp.ext _ _, h.hn, h.hm⟩
theorem Rd.alloc (h : Rd toks ps A PA B g w) {o : Obj} : Rd toks ps A PA B g (w.alloc o) := ⟨by have := h.hg; simp; omega, h.hB, h.hl.alloc _, h.hp.alloc _, h.hn, h.hm⟩
theorem Rd.sb (h : Rd toks ps A PA B g w) {t : TypeId} {cs : Array Value} : Rd toks ps A PA B g (sb w g t cs) := ⟨by rw [sb_size]; exact h.hg, h.hB, h.hl.sb h.hB _ _, h.hp.sb h.hB _ _, h.hn, h.hm⟩
theorem Rd.drewN (h : Rd toks ps A PA B g w) {n : Nat} : Rd toks ps A PA B g (w.drewN n) := ⟨h.hg, h.hB, h.hl, h.hp, h.hn, h.hm⟩
theorem Rd.drew (h : Rd toks ps A PA B g w) : Rd toks ps A PA B g w.drew := ⟨h.hg, h.hB, h.hl, h.hp, h.hn, h.hm⟩
end
/-- In the range of an int. -/
def I64 (n : Int) : Prop := -9223372036854775808 ≤ n ∧ n ≤ 9223372036854775807
theorem I64_w64 (n : Int) : I64 (w64 n) := by unfold I64; rw [w64_eq, IntKind.wrap_i64]; omega
theorem w64_of {n : Int} (h : I64 n) : w64 n = n := (w64_eq n).trans (IntWalk.i64_in _ (by unfold I64 at h; omega))
section
variable (toks : List Tok) (ps : List (List UInt8)) (A PA : Option Addr) (c pc g B : Nat) (at_ fe fa k : Int) (w : World)
theorem aLook_any (hr : Rd toks ps A PA B g w) (hb : w.heap[g]? = some (.cells #[.slice A toks.length c, .int .i64 (at_), .slice PA ps.length pc, .int .i64 (fe), .int .i64 (fa)] 109)) (ha : I64 at_) (hk0 : 0 ≤ k) (hk2 : k ≤ 2) :
    Calls Try.prog 68 #[.pointer (some ⟨g, 0, none⟩), .int .i64 k] w fun e w' =>
      e = .returned (.agg #[.int .i64 (tokAt toks (w64 (at_ + k))).kind, .string (bs (tokAt toks (w64 (at_ + k))).text), .int .i64 (tokAt toks (w64 (at_ + k))).pos]) ∧ Grw w w' := by
  have := aLook_sb toks A PA c ps.length pc g B at_ fe fa k w hr.hg hr.hB hr.hl hr.hn ha.1 ha.2 hk0 hk2
  rw [sb_self w g _ _ hb] at this
  exact this
theorem aLook_zero (hr : Rd toks ps A PA B g w) (hb : w.heap[g]? = some (.cells #[.slice A toks.length c, .int .i64 (at_), .slice PA ps.length pc, .int .i64 (fe), .int .i64 (fa)] 109)) (ha : I64 at_) :
    Calls Try.prog 68 #[.pointer (some ⟨g, 0, none⟩), .int .i64 0] w fun e w' =>
      e = .returned (.agg #[.int .i64 (tokAt toks at_).kind, .string (bs (tokAt toks at_).text), .int .i64 (tokAt toks at_).pos]) ∧ Grw w w' := by
  have := aLook_any toks ps A PA c pc g B at_ fe fa 0 w hr hb ha (by omega) (by omega)
  rw [Int.add_zero, w64_of ha] at this
  exact this
set_option maxHeartbeats 1000000 in
theorem aIs_any (s : ByteArray) (hr : Rd toks ps A PA B g w) (hb : w.heap[g]? = some (.cells #[.slice A toks.length c, .int .i64 (at_), .slice PA ps.length pc, .int .i64 (fe), .int .i64 (fa)] 109)) (ha : I64 at_) (hk0 : 0 ≤ k) (hk2 : k ≤ 2) :
    Calls Try.prog 69 #[.pointer (some ⟨g, 0, none⟩), .int .i64 k, .string s] w fun e w' =>
      e = .returned (.bool (isW (tokAt toks (w64 (at_ + k))) s.data.toList)) ∧ Grw w w' := by
  have HB := Lib.hid hb
  clear hb
  go_enter Try.func69, Try.ntmps69
  go_wp2_with (first
    | (go_at_call 68; refine (aLook_any toks ps A PA c pc g B at_ fe fa k _ hr HB.out ha hk0 hk2).mono ?_; rintro e w' ⟨rfl, hq⟩; obtain ⟨xh, xd, rfl⟩ := hq)
    | (go_at_call 85; refine (tIs_any _ _ _ _ _).mono ?_; rintro e w' ⟨rfl, hq⟩; obtain ⟨yh, yd, rfl⟩ := hq))
  go_ret
  exact ⟨rfl, by first | exact Grw.refl _ | (repeat (first | exact Grw.refl _ | apply Grw.ext | apply Grw.alloc | apply Grw.drewN | apply Grw.drew)); done⟩
theorem aIs_zero (s : ByteArray) (hr : Rd toks ps A PA B g w) (hb : w.heap[g]? = some (.cells #[.slice A toks.length c, .int .i64 (at_), .slice PA ps.length pc, .int .i64 (fe), .int .i64 (fa)] 109)) (ha : I64 at_) :
    Calls Try.prog 69 #[.pointer (some ⟨g, 0, none⟩), .int .i64 0, .string s] w fun e w' =>
      e = .returned (.bool (isW (tokAt toks at_) s.data.toList)) ∧ Grw w w' := by
  have := aIs_any toks ps A PA c pc g B at_ fe fa 0 w s hr hb ha (by omega) (by omega)
  rw [Int.add_zero, w64_of ha] at this
  exact this
set_option maxRecDepth 100000 in
set_option maxHeartbeats 1000000 in
theorem aBad_sb (er : Int) (hr : Rd toks ps A PA B g w) (ha : I64 at_) :
    Calls Try.prog 70 #[.pointer (some ⟨g, 0, none⟩), .int .i64 er] (sb w g 109 #[.slice A toks.length c, .int .i64 (at_), .slice PA ps.length pc, .int .i64 (fe), .int .i64 (fa)]) fun e w' =>
      e = .returned (.bool false) ∧ Grw (sb w g 109 #[.slice A toks.length c, .int .i64 (at_), .slice PA ps.length pc, .int .i64 (er), .int .i64 ((tokAt toks at_).pos)]) w' := by
  have hg := hr.hg
  go_enter Try.func70, Try.ntmps70
  go_wp2_with (go_at_call 68; refine (aLook_zero toks ps A PA c pc g B at_ fe fa _ (by repeat (first | exact hr | apply Rd.ext | apply Rd.alloc | apply Rd.sb | apply Rd.drewN | apply Rd.drew)) (by repeat (first | exact blk_sb _ _ _ _ hg | exact hg | apply blk_ext | apply blk_alloc | apply blk_drewN | apply blk_drew)) ha).mono ?_; rintro e w' ⟨rfl, hq⟩; obtain ⟨xh, xd, rfl⟩ := hq)
  go_ret
  exact ⟨rfl, by first | exact Grw.refl _ | (repeat (first | exact Grw.refl _ | apply Grw.ext | apply Grw.alloc | apply Grw.drewN | apply Grw.drew)); done⟩
theorem aBad_any (er : Int) (hr : Rd toks ps A PA B g w) (hb : w.heap[g]? = some (.cells #[.slice A toks.length c, .int .i64 (at_), .slice PA ps.length pc, .int .i64 (fe), .int .i64 (fa)] 109)) (ha : I64 at_) :
    Calls Try.prog 70 #[.pointer (some ⟨g, 0, none⟩), .int .i64 er] w fun e w' =>
      e = .returned (.bool false) ∧ Grw (sb w g 109 #[.slice A toks.length c, .int .i64 (at_), .slice PA ps.length pc, .int .i64 (er), .int .i64 ((tokAt toks at_).pos)]) w' := by
  have := aBad_sb toks ps A PA c pc g B at_ fe fa w er hr ha
  rw [sb_self w g _ _ hb] at this
  exact this
end
end Go.Proofs.YtnindeoemfgkeaaRRRR
