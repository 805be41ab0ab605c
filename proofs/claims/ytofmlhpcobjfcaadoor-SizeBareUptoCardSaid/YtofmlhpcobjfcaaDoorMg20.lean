/- Programs without their places, as plain data, and the law on them. No program in sight. Conditions: none. -/
import Derived.Test.YtofmlhpcobjfcaaDoorMg19
set_option linter.unusedVariables false
set_option linter.unusedSimpArgs false
namespace Go.Proofs.YtofmlhpcobjfcaaDoor
open Go.RowKit
theorem list_same {α : Type} (f : α → α → Bool) (l : List α) (h : ∀ x ∈ l, f x x = true) : ((l.zip l).all fun p => f p.1 p.2) = true := by
  induction l with
  | nil => rfl
  | cons x r ih => rw [List.zip_cons_cons, List.all_cons, h x (by simp), ih fun y hy => h y (by simp [hy])]; rfl
theorem list_map {α : Type} (f : α → α → Bool) (g : α → α) (l : List α) (h : ∀ x ∈ l, f x (g x) = true) : ((l.zip (l.map g)).all fun p => f p.1 p.2) = true := by
  induction l with
  | nil => rfl
  | cons x r ih => rw [List.map_cons, List.zip_cons_cons, List.all_cons, h x (by simp), ih fun y hy => h y (by simp [hy])]; rfl
mutual
theorem Ex.same_refl : ∀ e : Ex, e.sameB e = true
  | ⟨k, n, s, l⟩ => by rw [Ex.same_eq]; dsimp only; rw [Ex.sames_refl l]; simp
theorem Ex.sames_refl : ∀ l : List Ex, Ex.samesB l l = true
  | [] => rfl
  | e :: r => by rw [Ex.samesB, Ex.same_refl e, Ex.sames_refl r]; rfl
end
mutual
def St.bare : St → St
  | ⟨k, x, y, n, t, e, args, body, els, _⟩ => ⟨k, x, y, n, t, e, args, St.bares body, St.bares els, 0⟩
def St.bares : List St → List St
  | [] => []
  | s :: r => s.bare :: St.bares r
end
theorem St.bare_eq (s : St) : s.bare = { s with at_ := 0, body := St.bares s.body, els := St.bares s.els } := by cases s; rfl
theorem St.bares_map : ∀ l : List St, St.bares l = l.map St.bare
  | [] => rfl
  | s :: r => by rw [St.bares, St.bares_map r, List.map_cons]
def Vr.bare (v : Vr) : Vr := { v with at_ := 0 }
def Me.bare (m : Me) : Me := { m with at_ := 0, params := m.params.map Vr.bare, locals := m.locals.map Vr.bare, body := m.body.map St.bare }
def Cs.bare (c : Cs) : Cs := { c with at_ := 0, fields := c.fields.map Vr.bare, methods := c.methods.map Me.bare }
/-! Of the same size. -/
mutual
theorem St.sz_bare : ∀ s : St, s.bare.sz = s.sz
  | ⟨k, x, y, n, t, e, args, body, els, a⟩ => by
    rw [St.bare, St.sz, St.sz, St.szs_bare body, St.szs_bare els]
theorem St.szs_bare : ∀ l : List St, St.szs (St.bares l) = St.szs l
  | [] => rfl
  | s :: r => by rw [St.bares, St.szs, St.szs, St.sz_bare s, St.szs_bare r]
end
theorem sumOf_map {α : Type} (f : α → Nat) (g : α → α) (h : ∀ x, f (g x) = f x) : ∀ l : List α, sumOf f (l.map g) = sumOf f l
  | [] => rfl
  | x :: r => by rw [List.map_cons, sumOf, sumOf, h, sumOf_map f g h r]
theorem Vr.sz_bare (v : Vr) : v.bare.sz = v.sz := rfl
theorem Me.sz_bare (m : Me) : m.bare.sz = m.sz := by
  unfold Me.bare Me.sz
  dsimp only
  rw [sumOf_map _ _ Vr.sz_bare, sumOf_map _ _ Vr.sz_bare, ← St.bares_map, St.szs_bare]
theorem Cs.sz_bare (c : Cs) : c.bare.sz = c.sz := by
  unfold Cs.bare Cs.sz
  dsimp only
  rw [sumOf_map _ _ Vr.sz_bare, sumOf_map _ _ Me.sz_bare]
theorem bare_sz (l : List Cs) : sumOf Cs.sz (l.map Cs.bare) = sumOf Cs.sz l := sumOf_map _ _ Cs.sz_bare l
/-! The same, but for places. -/
mutual
theorem St.same_bare : ∀ s : St, s.sameB s.bare = true
  | ⟨k, x, y, n, t, e, args, body, els, a⟩ => by
    rw [St.bare, St.same_eq]; dsimp only
    rw [Ex.same_refl e, Ex.sames_refl args, St.sames_bare body, St.sames_bare els]; simp
theorem St.sames_bare : ∀ l : List St, St.samesB l (St.bares l) = true
  | [] => rfl
  | e :: r => by rw [St.bares, St.samesB, St.same_bare e, St.sames_bare r]; rfl
end
mutual
theorem St.bare_bare : ∀ s : St, s.bare.bare = s.bare
  | ⟨k, x, y, n, t, e, args, body, els, a⟩ => by rw [St.bare, St.bare, St.bares_bares body, St.bares_bares els]
theorem St.bares_bares : ∀ l : List St, St.bares (St.bares l) = St.bares l
  | [] => rfl
  | e :: r => by rw [St.bares, St.bares, St.bare_bare e, St.bares_bares r]
end
mutual
theorem St.same_refl : ∀ s : St, s.sameB s = true
  | ⟨k, x, y, n, t, e, args, body, els, a⟩ => by
    rw [St.same_eq]; dsimp only
    rw [Ex.same_refl e, Ex.sames_refl args, St.sames_refl body, St.sames_refl els]; simp
theorem St.sames_refl : ∀ l : List St, St.samesB l l = true
  | [] => rfl
  | e :: r => by rw [St.samesB, St.same_refl e, St.sames_refl r]; rfl
end
mutual
theorem St.at_refl : ∀ s : St, s.atB s = true
  | ⟨k, x, y, n, t, e, args, body, els, a⟩ => by
    rw [St.at_eq]; dsimp only
    rw [St.ats_refl body, St.ats_refl els]; simp
theorem St.ats_refl : ∀ l : List St, St.atsB l l = true
  | [] => rfl
  | e :: r => by rw [St.atsB, St.at_refl e, St.ats_refl r]; rfl
end
theorem map_map_id {α : Type} (g : α → α) (h : ∀ x, g (g x) = g x) (l : List α) : (l.map g).map g = l.map g := by
  rw [List.map_map]; exact List.map_congr_left fun x _ => h x
theorem Vr.bare_bare (v : Vr) : v.bare.bare = v.bare := rfl
theorem Me.bare_bare (m : Me) : m.bare.bare = m.bare := by
  unfold Me.bare
  dsimp only
  rw [map_map_id _ Vr.bare_bare, map_map_id _ Vr.bare_bare, map_map_id _ St.bare_bare]
theorem Cs.bare_bare (c : Cs) : c.bare.bare = c.bare := by
  unfold Cs.bare
  dsimp only
  rw [map_map_id _ Vr.bare_bare, map_map_id _ Me.bare_bare]
theorem bare_bare (l : List Cs) : (l.map Cs.bare).map Cs.bare = l.map Cs.bare := map_map_id _ Cs.bare_bare l
theorem vars_refl (q : Bool) (l : List Vr) : varsSameB q l l = true := by
  unfold varsSameB
  rw [list_same (fun a b : Vr => a.sameB q b) l fun x _ => by unfold Vr.sameB; simp]
  simp
theorem me_refl (q : Bool) (m : Me) : m.likeB q m = true := by
  unfold Me.likeB
  rw [vars_refl, vars_refl, St.sames_refl, St.ats_refl]
  simp
theorem cs_refl (q : Bool) (c : Cs) : c.oneB q c = true := by
  unfold Cs.oneB
  have h1 := list_same (fun a b : List UInt8 => a == b) c.params fun x _ => by simp
  have h2 := list_same (fun a b : Int × Int => a == b) c.above fun x _ => by simp
  have h3 := list_same (fun a b : Me => a.likeB q b) c.methods fun x _ => me_refl q x
  rw [h1, h2, h3, vars_refl]
  simp
theorem like_refl (q : Bool) (l : List Cs) : likeB q l l = true := by
  unfold likeB
  rw [list_same (fun a b : Cs => a.oneB q b) l fun x _ => cs_refl q x]
  simp
theorem vars_bare (l : List Vr) : varsSameB false l (l.map Vr.bare) = true := by
  unfold varsSameB
  rw [list_map (fun a b : Vr => a.sameB false b) Vr.bare l fun x _ => by unfold Vr.sameB Vr.bare; simp]
  simp
theorem me_bare (m : Me) : m.likeB false m.bare = true := by
  unfold Me.likeB
  simp only [Me.bare]
  rw [vars_bare, vars_bare, ← St.bares_map, St.sames_bare]
  simp
theorem cs_bare (c : Cs) : c.oneB false c.bare = true := by
  unfold Cs.oneB
  have h1 := list_same (fun a b : List UInt8 => a == b) c.params fun x _ => by simp
  have h2 := list_same (fun a b : Int × Int => a == b) c.above fun x _ => by simp
  have h3 := list_map (fun a b : Me => a.likeB false b) Me.bare c.methods fun x _ => me_bare x
  simp only [Cs.bare]
  rw [h1, h2, h3, vars_bare]
  simp
theorem like_bare (l : List Cs) : likeB false l (l.map Cs.bare) = true := by
  unfold likeB
  rw [list_map (fun a b : Cs => a.oneB false b) Cs.bare l fun x _ => cs_bare x]
  simp
/-! Whether it may be. -/
mutual
theorem St.cnt_bare : ∀ s : St, s.bare.cnt = s.cnt
  | ⟨k, x, y, n, t, e, args, body, els, a⟩ => by rw [St.bare, St.cnt, St.cnt, St.cnts_bare body, St.cnts_bare els]
theorem St.cnts_bare : ∀ l : List St, St.cnts (St.bares l) = St.cnts l
  | [] => rfl
  | s :: r => by rw [St.bares, St.cnts, St.cnts, St.cnt_bare s, St.cnts_bare r]
end
mutual
theorem St.deep_bare : ∀ s : St, s.bare.deep = s.deep
  | ⟨k, x, y, n, t, e, args, body, els, a⟩ => by rw [St.bare, St.deep, St.deep, St.deeps_bare body, St.deeps_bare els]
theorem St.deeps_bare : ∀ l : List St, St.deeps (St.bares l) = St.deeps l
  | [] => rfl
  | s :: r => by rw [St.bares, St.deeps, St.deeps, St.deep_bare s, St.deeps_bare r]
end
mutual
theorem St.open_bare (p : Int) : ∀ s : St, s.bare.openB p = s.openB p
  | ⟨k, x, y, n, t, e, args, body, els, a⟩ => by rw [St.bare, St.openB, St.openB, St.opens_bare p body, St.opens_bare p els]
theorem St.opens_bare (p : Int) : ∀ l : List St, St.opensB p (St.bares l) = St.opensB p l
  | [] => rfl
  | s :: r => by rw [St.bares, St.opensB, St.opensB, St.open_bare p s, St.opens_bare p r]
end
theorem St.bares_len (l : List St) : (St.bares l).length = l.length := by rw [St.bares_map, List.length_map]
theorem St.only_bare (s : St) : s.bare.onlyB = s.onlyB := by
  obtain ⟨k, x, y, n, t, e, args, body, els, a⟩ := s
  by_cases h9 : k = 9
  · subst h9; simp [St.bare, St.onlyB, St.blank]
  · by_cases h10 : k = 10
    · subst h10; simp [St.bare, St.onlyB, St.blank, St.bares_len]
    · by_cases h5 : k = 5
      · subst h5; simp [St.bare, St.onlyB, St.blank, St.bares_len]
      · by_cases h6 : k = 6
        · subst h6; simp [St.bare, St.onlyB, St.blank, St.bares_len]
        · simp [St.bare, St.onlyB, St.blank, h9, h10, h5, h6, St.bares_len]
          rfl
mutual
theorem St.form_bare (p : Int) : ∀ s : St, s.bare.formB p = s.formB p
  | ⟨k, x, y, n, t, e, args, body, els, a⟩ => by
    have h1 := St.only_bare ⟨k, x, y, n, t, e, args, body, els, a⟩
    rw [St.form_eq, St.form_eq, h1]
    have h2 : (St.bare ⟨k, x, y, n, t, e, args, body, els, a⟩).namesB p = St.namesB ⟨k, x, y, n, t, e, args, body, els, a⟩ p := rfl
    have h3 : (St.bare ⟨k, x, y, n, t, e, args, body, els, a⟩).tellsB = St.tellsB ⟨k, x, y, n, t, e, args, body, els, a⟩ := rfl
    rw [h2, h3]
    show (_ && (St.formsB p (St.bares body) && St.formsB p (St.bares els))) = _
    rw [St.forms_bare p body, St.forms_bare p els]
theorem St.forms_bare (p : Int) : ∀ l : List St, St.formsB p (St.bares l) = St.formsB p l
  | [] => rfl
  | s :: r => by rw [St.bares, St.formsB, St.formsB, St.form_bare p s, St.forms_bare p r]
end
theorem St.right_bare (p : Int) (s : St) : s.bare.rightB p = s.rightB p := by
  unfold St.rightB; rw [St.form_bare, St.deep_bare]
theorem all_bare {α : Type} (f : α → Bool) (g : α → α) (h : ∀ x, f (g x) = f x) (l : List α) : (l.map g).all f = l.all f := by
  rw [List.all_map]; congr 1; funext x; exact h x
theorem vrs_bare (l : List Vr) (m : Nat) (p : Int) : vrsB (l.map Vr.bare) m p = vrsB l m p := by
  unfold vrsB
  simp only [List.length_map, List.all_map]
  rfl
theorem Me.right_bare (p : Int) (m : Me) : m.bare.rightB p = m.rightB p := by
  unfold Me.rightB
  have h1 : m.bare.body.all (St.rightB · p) = m.body.all (St.rightB · p) := all_bare (fun s => St.rightB s p) St.bare (fun s => St.right_bare p s) m.body
  have h2 : St.opensB p m.bare.body = St.opensB p m.body := by show St.opensB p (m.body.map St.bare) = _; rw [← St.bares_map, St.opens_bare]
  have h3 : vrsB m.bare.params 5 p = vrsB m.params 5 p := vrs_bare _ _ _
  have h4 : vrsB m.bare.locals 12 p = vrsB m.locals 12 p := vrs_bare _ _ _
  rw [h1, h2, h3, h4]
  rfl
theorem Cs.right_bare (c : Cs) : c.bare.rightB = c.rightB := by
  unfold Cs.rightB
  have h1 : (c.methods.map Me.bare).all (Me.rightB c.params.length) = c.methods.all (Me.rightB c.params.length) := all_bare _ Me.bare (fun m => Me.right_bare _ m) c.methods
  simp only [Cs.bare]
  rw [h1, vrs_bare]
  simp only [List.length_map]
  rfl
theorem Cs.stmts_bare (c : Cs) : c.bare.stmts = c.stmts := by
  unfold Cs.stmts
  exact sumOf_map _ _ (fun m => by show St.cnts (m.body.map St.bare) = _; rw [← St.bares_map, St.cnts_bare]) c.methods
theorem right_bare (l : List Cs) : rightB (l.map Cs.bare) = rightB l := by
  unfold rightB
  rw [sumOf_map _ _ Cs.stmts_bare, List.length_map, all_bare (fun c : Cs => !(decide ((l.length : Int) > 20) || !c.rightB)) Cs.bare (fun c => by rw [Cs.right_bare])]
end Go.Proofs.YtofmlhpcobjfcaaDoor
