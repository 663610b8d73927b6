/-
  From the form's reading of a slice of structs to the abstract lists; from a contract to the row.
-/
import Derived.Test.YtfoadgepblojpaaRows
import Derived.Test.YtfoadgepblojpaaW22
import Derived.ProofKit
import Derived.Carry
import Derived.ReadAgain
import Derived.Deep.Strs
namespace Go.Proofs.Ytfoadgepblojpaa
open Go.AM Go.Proofs Go.ChangeShapes Go.WideShapes Go.ChangeAt Go.RowKit Go.Deep

theorem Try.own : ownKnob Try.prog.godebug = none := by kernel_rfl
theorem Try.laidOut : laidOutB Try.prog = true := by kernel_rfl
theorem Try.cells49 : Try.prog.cellsOf 49 = 4 := by kernel_rfl
theorem Try.cells47 : Try.prog.cellsOf 47 = 3 := by kernel_rfl
theorem Try.cells3 : Try.prog.cellsOf 3 = 1 := by kernel_rfl

section
variable {H : Type} {enc : TypeId × Value → H} {W : World} {base : Nat} {spare : Nat → Bool} {held : Bool}

set_option maxRecDepth 100000 in
theorem ch_elem {n : Nat} {cs : List Value} {x : DataW H × List MemPlace} (h : DataW.trod enc Try.prog W base spare held n 49 cs = some x) :
    ∃ c : Ch, cs = [.int .i64 c.x, .int .i64 c.y, .int .i64 c.f, .int .i64 c.t] := by
  obtain ⟨xs, k, _, _, hl, hlen, hf⟩ := DataW.trod_struct Try.underlying49 h
  rw [Try.cells49] at hl
  match xs, hlen, cs, hl with
  | [y0, y1, y2, y3], _, [v0, v1, v2, v3], _ =>
    have g0 := hf 0 _ rfl
    have g1 := hf 1 _ rfl
    have g2 := hf 2 _ rfl
    have g3 := hf 3 _ rfl
    simp [Try.cells3] at g0 g1 g2 g3
    obtain ⟨n0, e0, _⟩ := DataW.trod_int Try.underlying3 g0
    obtain ⟨n1, e1, _⟩ := DataW.trod_int Try.underlying3 g1
    obtain ⟨n2, e2, _⟩ := DataW.trod_int Try.underlying3 g2
    obtain ⟨n3, e3, _⟩ := DataW.trod_int Try.underlying3 g3
    cases e0; cases e1; cases e2; cases e3
    exact ⟨⟨n0, n1, n2, n3⟩, rfl⟩
set_option maxRecDepth 100000 in
theorem cl_elem {n : Nat} {cs : List Value} {x : DataW H × List MemPlace} (h : DataW.trod enc Try.prog W base spare held n 47 cs = some x) :
    ∃ c : Cl, cs = [.int .i64 c.x, .int .i64 c.y, .int .i64 c.s] := by
  obtain ⟨xs, k, _, _, hl, hlen, hf⟩ := DataW.trod_struct Try.underlying47 h
  rw [Try.cells47] at hl
  match xs, hlen, cs, hl with
  | [y0, y1, y2], _, [v0, v1, v2], _ =>
    have g0 := hf 0 _ rfl
    have g1 := hf 1 _ rfl
    have g2 := hf 2 _ rfl
    simp [Try.cells3] at g0 g1 g2
    obtain ⟨n0, e0, _⟩ := DataW.trod_int Try.underlying3 g0
    obtain ⟨n1, e1, _⟩ := DataW.trod_int Try.underlying3 g1
    obtain ⟨n2, e2, _⟩ := DataW.trod_int Try.underlying3 g2
    cases e0; cases e1; cases e2
    exact ⟨⟨n0, n1, n2⟩, rfl⟩
end

instance : Inhabited Ch := ⟨⟨0, 0, 0, 0⟩⟩
instance : Inhabited Cl := ⟨⟨0, 0, 0⟩⟩
theorem repRows_of {w : World} {F : Nat → Prop} {sz b : Nat} : ∀ (rows : List (List L)) (o : Nat), (∀ i r, rows[i]? = some r → r.length = sz ∧ repRow w F r b (o + i * sz)) → repRows w F sz rows b o
  | [], _, _ => trivial
  | r :: rows, o, h => ⟨by simpa using h 0 r rfl, repRows_of rows (o + sz) fun i r' hr => by
      have := h (i + 1) r' (by simpa using hr)
      rw [Nat.add_mul, Nat.one_mul] at this
      rwa [show o + sz + i * sz = o + (i * sz + sz) by omega]⟩
/-- A slice of structs of so many integers, as the form reads it, is a list. -/
theorem rep_slice {α : Type} [Inhabited α] (enc' : α → List L) (sz : Nat) {w : World} {base : Nat} {a : Addr} {len cap : Nat} (hsz : 0 < sz) (hl : len ≤ cap) (hm : cap ≤ maxLen)
    (he : ∀ i, i < len → ∃ (c : α) (cs : List Value), (enc' c).length = sz ∧ w.cells? base (a.add (i * sz)) sz = some cs ∧ ∀ (j : Nat) (x : L), (enc' c)[j]? = some x → ∃ u : Value, cs[j]? = some u ∧ rep w (fun _ => True) x u) :
    ∃ l : List α, rep w (fun _ => True) (.sl sz (l.map enc')) (.slice (some a) len cap) := by
  obtain ⟨f, hf⟩ := choose_lt he
  refine ⟨(List.range len).map f, ?_⟩
  have hcell : ∀ i, i < len → ∀ (j : Nat) (x : L), (enc' (f i))[j]? = some x → ∃ u, w.cell? (a.add (i * sz + j)) = some u ∧ rep w (fun _ => True) x u := fun i hi j x hx => by
    obtain ⟨cs, h1, h2, h3⟩ := hf i hi
    obtain ⟨_, h4, h5⟩ := World.cells?_some h2
    obtain ⟨u, hu, hr⟩ := h3 j x hx
    have hj : j < sz := by rw [← h1]; exact (List.getElem?_eq_some_iff.1 hx).1
    have := h5 j hj
    rw [Go.Deep.add_add, hu] at this
    exact ⟨u, this, hr⟩
  simp only [rep]
  refine ⟨some a, len, cap, rfl, by simp, hl, hm, ?_⟩
  by_cases h0 : len = 0
  · left; subst h0; rfl
  · right
    have hpos : 0 < len := by omega
    obtain ⟨cs, h1, _⟩ := hf 0 hpos
    obtain ⟨x0, hx0⟩ : ∃ x0, (enc' (f 0))[0]? = some x0 := ⟨_, List.getElem?_eq_getElem (by omega)⟩
    obtain ⟨u0, hu0, _⟩ := hcell 0 hpos 0 x0 hx0
    have hu0' : w.cell? a = some u0 := by simpa [Addr.add] using hu0
    have hspot : a.spot = none ∧ a.block < w.heap.size := by
      unfold World.cell? at hu0'
      split at hu0'
      · rename_i c _ _ hb
        split at hu0'
        · cases hu0'
        · rename_i hs
          exact ⟨by simpa using hs, (Array.getElem?_eq_some_iff.1 hb).1⟩
      · cases hu0'
    obtain ⟨b, o, s⟩ := a
    obtain ⟨hs, hlt⟩ := hspot
    subst hs
    refine ⟨b, o, rfl, trivial, hlt, repRows_of _ _ fun i r hr => ?_⟩
    rw [List.getElem?_map, List.getElem?_map] at hr
    obtain ⟨c, hc, rfl⟩ := Option.map_eq_some_iff.1 hr
    obtain ⟨i', hi', rfl⟩ := Option.map_eq_some_iff.1 hc
    obtain ⟨hilt, rfl⟩ := List.getElem?_eq_some_iff.1 hi'
    simp at hilt
    rw [List.getElem_range]
    obtain ⟨cs, h1, _⟩ := hf i hilt
    refine ⟨h1, ?_⟩
    have key : ∀ (xs : List L) (o' : Nat), (∀ (j : Nat) (x : L), xs[j]? = some x → ∃ u, w.cell? ⟨b, o' + j, none⟩ = some u ∧ rep w (fun _ => True) x u) → repRow w (fun _ => True) xs b o' := by
      intro xs
      induction xs with
      | nil => intro o' _; trivial
      | cons x xs ih =>
        intro o' h
        refine ⟨by simpa using h 0 x rfl, ih (o' + 1) fun j y hy => ?_⟩
        have := h (j + 1) y (by simpa using hy)
        rwa [show o' + 1 + j = o' + (j + 1) by omega]
    refine key _ _ fun j x hx => ?_
    obtain ⟨u, hu, hr⟩ := hcell i hilt j x hx
    refine ⟨u, ?_, hr⟩
    rw [← hu]
    congr 1
    unfold Addr.add
    split
    · rename_i h; simp
    · simp [Nat.add_assoc]

section
variable {H : Type} {enc : TypeId × Value → H} {W : World} {base : Nat} {φ : Nat → Value}
set_option maxRecDepth 100000 in
theorem ch_arg {v : Value} {d : DataW H} {ps : List MemPlace} (hv : Value.okWide Try.prog W .any base 22 v) (h : DataW.Trod enc Try.prog W 0 (fun _ => true) true 22 v d ps) :
    ∃ l : List Ch, vsim φ W (fun _ => True) (.one (.d (chL l))) v := by
  obtain ⟨a, len, cap, rfl⟩ := okWide_slice Try.underlying22 hv
  obtain ⟨n, hn⟩ := h
  rcases open_slice Try.underlying22 hn with ⟨h1, _⟩ | ⟨a', len', cap', m, n', D, Pl, h1, _, hl, hm, hmm, _, hx⟩
  · have h1' : [Value.slice a len cap] = [Value.slice none 0 0] := h1
    cases h1'
    exact ⟨[], none, 0, 0, rfl, rfl, Nat.le_refl _, Nat.zero_le _, .inl rfl⟩
  · have h1' : [Value.slice a len cap] = [Value.slice (some a') len' cap'] := h1
    cases h1'
    have hle : len ≤ m := by rw [hmm]; split <;> omega
    obtain ⟨l, hr⟩ := rep_slice Ch.row 4 (w := W) (base := 0) (a := a') (by omega) hl hm fun i hi => by
      obtain ⟨cs', h2, h3⟩ := hx i (by omega)
      obtain ⟨c, rfl⟩ := ch_elem h3
      rw [Try.cells49] at h2
      refine ⟨c, _, rfl, h2, fun j x hx => ?_⟩
      match j, hx with
      | 0, hx => cases hx; exact ⟨_, rfl, rfl⟩
      | 1, hx => cases hx; exact ⟨_, rfl, rfl⟩
      | 2, hx => cases hx; exact ⟨_, rfl, rfl⟩
      | 3, hx => cases hx; exact ⟨_, rfl, rfl⟩
      | j + 4, hx => simp [Ch.row] at hx
    exact ⟨l, hr⟩
set_option maxRecDepth 100000 in
theorem cl_arg {v : Value} {d : DataW H} {ps : List MemPlace} (hv : Value.okWide Try.prog W .any base 24 v) (h : DataW.Trod enc Try.prog W 0 (fun _ => true) true 24 v d ps) :
    ∃ l : List Cl, vsim φ W (fun _ => True) (.one (.d (clL l))) v := by
  obtain ⟨a, len, cap, rfl⟩ := okWide_slice Try.underlying24 hv
  obtain ⟨n, hn⟩ := h
  rcases open_slice Try.underlying24 hn with ⟨h1, _⟩ | ⟨a', len', cap', m, n', D, Pl, h1, _, hl, hm, hmm, _, hx⟩
  · have h1' : [Value.slice a len cap] = [Value.slice none 0 0] := h1
    cases h1'
    exact ⟨[], none, 0, 0, rfl, rfl, Nat.le_refl _, Nat.zero_le _, .inl rfl⟩
  · have h1' : [Value.slice a len cap] = [Value.slice (some a') len' cap'] := h1
    cases h1'
    have hle : len ≤ m := by rw [hmm]; split <;> omega
    obtain ⟨l, hr⟩ := rep_slice Cl.row 3 (w := W) (base := 0) (a := a') (by omega) hl hm fun i hi => by
      obtain ⟨cs', h2, h3⟩ := hx i (by omega)
      obtain ⟨c, rfl⟩ := cl_elem h3
      rw [Try.cells47] at h2
      refine ⟨c, _, rfl, h2, fun j x hx => ?_⟩
      match j, hx with
      | 0, hx => cases hx; exact ⟨_, rfl, rfl⟩
      | 1, hx => cases hx; exact ⟨_, rfl, rfl⟩
      | 2, hx => cases hx; exact ⟨_, rfl, rfl⟩
      | j + 3, hx => simp [Cl.row] at hx
    exact ⟨l, hr⟩
end
/-- The call of a contract that gives true, as the row wants it. -/
theorem true_calls {f : FuncId} {us : List V} {vals : List Value} {W : World} (h : PFn Try.prog f us (· = .bool true)) (hl : vals.length = us.length)
    (hv : ∀ (i : Nat) (x : V) (u : Value), us[i]? = some x → vals[i]? = some u → vsim (fun _ => undef) W (fun _ => True) x u) :
    Calls Try.prog f vals.toArray W fun e W' => e = .returned (.bool true) ∧ Below W.heap.size W W' :=
  (h.2 (fun _ => undef) W (fun _ => True) (fun _ _ => trivial) vals hl hv).mono fun e W' ⟨u, v, he, hb, hR, hs⟩ => by
    subst hR
    have hu : u = .bool true := hs
    subst hu
    exact ⟨he, hb.toBelow⟩

end Go.Proofs.Ytfoadgepblojpaa
