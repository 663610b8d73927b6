/-
  From the form's reading of rules, patterns, motions and numbers to the plain structures (the Ship seat).
-/
import Derived.Test.YtfpjnmhdbgbmmaaGreatDoorRows
import Derived.Test.YtfpjnmhdbgbmmaaGreatDoorMd1
import Derived.ProofKit
import Derived.Lib.LaidU8
import Derived.Shelf.Vars
import Derived.HandedShaped
import Derived.Carry
import Derived.ReadAgain
import Derived.Deep.Strs
import Derived.OpenShut
import Derived.LaidMore
import Derived.Lay
import Derived.SevenTiedAt
import Derived.Stop.Joined
namespace Go.Proofs.YtfpjnmhdbgbmmaaGreatDoor
open Go.AM Go.Proofs Go.ChangeShapes Go.WideShapes Go.ChangeAt Go.RowKit Go.Deep
theorem Tryz.own : ownKnob Tryz.prog.godebug = none := by kernel_rfl
theorem Tryz.laidOut : laidOutB Tryz.prog = true := by kernel_rfl
theorem Tryz.cells3 : Tryz.prog.cellsOf 3 = 1 := by kernel_rfl
theorem Tryz.cells29 : Tryz.prog.cellsOf 29 = 3 := by kernel_rfl
theorem Tryz.cells42 : Tryz.prog.cellsOf 42 = 5 := by kernel_rfl
theorem Tryz.cells43 : Tryz.prog.cellsOf 43 = 3 := by kernel_rfl
theorem Tryz.cells108 : Tryz.prog.cellsOf 108 = 4 := by kernel_rfl
def Rdd (w : World) (xs : List L) (cs : List Value) : Prop := cs.length = xs.length ∧ ∀ (j : Nat) (x : L), xs[j]? = some x → ∃ u, cs[j]? = some u ∧ rep w (fun _ => True) x u
theorem rdd_one {w : World} {x : L} {v : Value} (h : rep w (fun _ => True) x v) : Rdd w [x] [v] := ⟨rfl, fun j y hy => by
 match j, hy with
 | 0, hy => cases hy; exact ⟨v, rfl, h⟩
 | j + 1, hy => simp at hy⟩
theorem fX {w : World} {x : L} {xs : List L} {v : Value} {vs : List Value} (h : Rdd w [x] [v]) (h' : Rdd w xs vs) : Rdd w (x :: xs) (v :: vs) := ⟨by simp [h'.1], fun j y hy => by
 match j, hy with
 | 0, hy => cases hy; exact h.2 0 x rfl
 | j + 1, hy => simpa using h'.2 j y (by simpa using hy)⟩
theorem rdd_csims {φ : Nat → Value} {w : World} : ∀ {xs : List L} {cs : List Value}, Rdd w xs cs → csims φ w (fun _ => True) (xs.map C.d) cs
 | [], cs, h => by
  have : cs = [] := List.eq_nil_of_length_eq_zero h.1
  subst this
  simp [csims]
 | x :: xs, [], h => by have := h.1; simp at this
 | x :: xs, v :: vs, h => by
  simp only [List.map_cons, csims]
  obtain ⟨u, hu, hr⟩ := h.2 0 x rfl
  cases hu
  refine ⟨v, vs, rfl, ?_, rdd_csims ⟨by have := h.1; simpa using this, fun j y hy => by simpa using h.2 (j + 1) y (by simpa using hy)⟩⟩
  simpa [csim] using hr
section
variable {H : Type} {enc : TypeId × Value → H} {W : World} {spare : Nat → Bool} {held : Bool}
abbrev Rng (n : Int) : Prop := -9223372036854775808 ≤ n ∧ n ≤ 9223372036854775807
theorem gZ {n : Nat} {cs : List Value} {x : DataW H × List MemPlace} (h : DataW.trod enc Tryz.prog W 0 spare held n 3 cs = some x) : ∃ n : Int, Rng n ∧ Rdd W [L.int .i64 n] cs := by
 obtain ⟨n, rfl, _, wn⟩ := DataW.trod_int Tryz.underlying3 h
 exact ⟨n, by simpa [Lit.wf, IntKind.min, IntKind.max, IntKind.signed, IntKind.bits] using wn, rdd_one (by simp [rep])⟩
set_option maxRecDepth 100000 in
theorem okWide_arr {t e : TypeId} {n base : Nat} {w : World} {v : Value} (ht : Tryz.prog.underlying t = some (.array n e)) (h : Value.okWide Tryz.prog w .any base t v) : ∃ cs, v = .agg cs := by
 simp only [Value.okWide, ht] at h
 obtain ⟨cs, h1, _⟩ := h
 exact ⟨cs, h1⟩
variable {φ : Nat → Value} {base : Nat}
set_option maxRecDepth 100000 in
theorem motion_arg {v : Value} {d : DataW H} {ps : List MemPlace} (hv : Value.okWide Tryz.prog W .any base 29 v) (h : DataW.Trod enc Tryz.prog W 0 (fun _ => true) true 29 v d ps) :
  ∃ t : Motion, (Rng t.DX ∧ Rng t.DY) ∧ vsim φ W (fun _ => True) (.u (.agg (t.row.map C.d))) v := by
 obtain ⟨arr, rfl, _⟩ := okWide_struct Tryz.underlying29 hv
 obtain ⟨n, hn⟩ := h
 obtain ⟨xs, k, _, _, hl, hlen, hf⟩ := DataW.trod_struct Tryz.underlying29 hn
 rw [Tryz.cells29] at hl
 have hcc : (Value.agg arr).cells.toList = arr.toList := rfl
 rw [hcc] at hl
 simp only [hcc] at hf
 have key : ∀ cs : List Value, cs = arr.toList → ∃ t : Motion, (Rng t.DX ∧ Rng t.DY) ∧ Rdd W t.row cs := fun cs hcs => by
  rw [← hcs] at hl hf
  match xs, hlen, cs, hl with
  | [y0, y1, y2], _, [v0, v1, v2], _ =>
   have g0 := hf 0 _ rfl
   have g1 := hf 1 _ rfl
   have g2 := hf 2 _ rfl
   simp [Tryz.cells3] at g0 g1 g2
   obtain ⟨a, _, ha⟩ := gZ g0
   obtain ⟨b, wb, hb⟩ := gZ g1
   obtain ⟨c, wc, hc⟩ := gZ g2
   exact ⟨⟨a, b, c⟩, ⟨wb, wc⟩, fX ha (fX hb hc)⟩
 obtain ⟨t, ht, hr⟩ := key _ rfl
 exact ⟨t, ht, arr, rfl, rdd_csims hr⟩
set_option maxRecDepth 100000 in
theorem shot_arg {v : Value} {d : DataW H} {ps : List MemPlace} (hv : Value.okWide Tryz.prog W .any base 42 v) (h : DataW.Trod enc Tryz.prog W 0 (fun _ => true) true 42 v d ps) :
  ∃ t : Shot, vsim φ W (fun _ => True) (.u (.agg (t.row.map C.d))) v := by
 obtain ⟨arr, rfl, _⟩ := okWide_struct Tryz.underlying42 hv
 obtain ⟨n, hn⟩ := h
 obtain ⟨xs, k, _, _, hl, hlen, hf⟩ := DataW.trod_struct Tryz.underlying42 hn
 rw [Tryz.cells42] at hl
 have hcc : (Value.agg arr).cells.toList = arr.toList := rfl
 rw [hcc] at hl
 simp only [hcc] at hf
 have key : ∀ cs : List Value, cs = arr.toList → ∃ t : Shot, Rdd W t.row cs := fun cs hcs => by
  rw [← hcs] at hl hf
  match xs, hlen, cs, hl with
  | [y0, y1, y2, y3, y4], _, [v0, v1, v2, v3, v4], _ =>
   have g0 := hf 0 _ rfl
   have g1 := hf 1 _ rfl
   have g2 := hf 2 _ rfl
   have g3 := hf 3 _ rfl
   have g4 := hf 4 _ rfl
   simp [Tryz.cells3] at g0 g1 g2 g3 g4
   obtain ⟨a, _, ha⟩ := gZ g0
   obtain ⟨b, _, hb⟩ := gZ g1
   obtain ⟨c, _, hc⟩ := gZ g2
   obtain ⟨e, _, he⟩ := gZ g3
   obtain ⟨f, _, hf⟩ := gZ g4
   exact ⟨⟨a, b, c, e, f⟩, fX ha (fX hb (fX hc (fX he hf)))⟩
 obtain ⟨t, hr⟩ := key _ rfl
 exact ⟨t, arr, rfl, rdd_csims hr⟩
set_option maxRecDepth 100000 in
theorem three_arg {v : Value} {d : DataW H} {ps : List MemPlace} (hv : Value.okWide Tryz.prog W .any base 43 v) (h : DataW.Trod enc Tryz.prog W 0 (fun _ => true) true 43 v d ps) :
  ∃ x : Int × Int × Int, Rng x.2.2 ∧ vsim φ W (fun _ => True) (.u (.agg [.d (.int .i64 x.1), .d (.int .i64 x.2.1), .d (.int .i64 x.2.2)])) v := by
 obtain ⟨arr, rfl⟩ := okWide_arr Tryz.underlying43 hv
 obtain ⟨n, hn⟩ := h
 obtain ⟨xs, m, _, _, hl, hlen, hf⟩ := DataW.trod_array Tryz.underlying43 hn
 rw [Tryz.cells43] at hl
 have hcc : (Value.agg arr).cells.toList = arr.toList := rfl
 rw [hcc] at hl
 simp only [hcc] at hf
 have key : ∀ cs : List Value, cs = arr.toList → ∃ x : Int × Int × Int, Rng x.2.2 ∧ Rdd W [L.int .i64 x.1, L.int .i64 x.2.1, L.int .i64 x.2.2] cs := fun cs hcs => by
  rw [← hcs] at hl hf
  match xs, hlen, cs, hl with
  | [y0, y1, y2], _, [v0, v1, v2], _ =>
   have g0 := hf 0 (by omega)
   have g1 := hf 1 (by omega)
   have g2 := hf 2 (by omega)
   rw [Tryz.cells3] at g0 g1 g2
   simp at g0 g1 g2
   obtain ⟨a, _, ha⟩ := gZ g0
   obtain ⟨b, _, hb⟩ := gZ g1
   obtain ⟨c, wc, hc⟩ := gZ g2
   exact ⟨(a, b, c), wc, fX ha (fX hb hc)⟩
 obtain ⟨x, hx, hr⟩ := key _ rfl
 exact ⟨x, hx, arr, rfl, rdd_csims hr⟩
end
theorem flat_get {r : Nat} : ∀ (mat : List (List Int)) (k : Nat) (z : Int), (∀ x ∈ mat, x.length = r) → mat.flatten[k]? = some z → ∃ i j row, mat[i]? = some row ∧ row[j]? = some z ∧ k = i * r + j ∧ j < r
 | [], k, z, _, h => by simp at h
 | x :: mat, k, z, hr, h => by
  have hx := hr x (by simp)
  rw [List.flatten_cons] at h
  by_cases hk : k < x.length
  ·rw [List.getElem?_append_left hk] at h
   exact ⟨0, k, x, rfl, h, by omega, by omega⟩
  ·rw [List.getElem?_append_right (by omega)] at h
   obtain ⟨i, j, row, h1, h2, h3, h4⟩ := flat_get mat _ z (fun y hy => hr y (by simp [hy])) h
   exact ⟨i + 1, j, row, by simpa using h1, h2, by rw [Nat.add_mul]; omega, h4⟩
theorem laid_mat {P : Program} {w : World} {nm : String} {m r g : Nat} {t e i : TypeId} {mat : List (List Int)} (h : Lib.VarReads P w nm (.agg (mat.map fun x => .agg (x.map fun z => .lit (.int .i64 z)))))
  (hg : P.globalNamed nm = some g) (hty : (P.globals[g]?).map (·.type) = some t) (ht : P.underlying t = some (.array m e)) (he : P.underlying e = some (.array r i)) (hi : P.underlying i = some (.int .i64)) (ce : P.cellsOf e = r) (ci : P.cellsOf i = 1)
  (hm : mat.length = m) (hr : ∀ x ∈ mat, x.length = r) (k : Nat) (z : Int) (hk : mat.flatten[k]? = some z) : w.cell? ⟨g, k, none⟩ = some (.int .i64 z) := by
 obtain ⟨a, b, row, h1, h2, rfl, hb⟩ := flat_get mat k z hr hk
 obtain ⟨g', t', cs, fuel, p, hg', hty', hvar, hd⟩ := h
 obtain rfl := Option.some.inj (hg.symm.trans hg')
 obtain rfl := Option.some.inj (hty.symm.trans hty')
 have ha : a < m := by rw [← hm]; exact (List.getElem?_eq_some_iff.1 h1).1
 obtain ⟨f1, d1, q1, hd1, ht1⟩ := Lib.array_elem ht hd a ha
 rw [List.getElem?_map, h1] at hd1
 cases hd1
 obtain ⟨f2, d2, q2, hd2, ht2⟩ := Lib.array_elem he ht1 b hb
 rw [List.getElem?_map, h2] at hd2
 cases hd2
 rw [ce, ci] at ht2
 obtain ⟨n, hn, hx, _⟩ := DataW.trod_int hi ht2
 cases hx
 have e0 := congrArg (·[0]?) hn
 simp only [List.getElem?_take, List.getElem?_drop] at e0
 rw [World.var?_cell hg hvar, ← Array.getElem?_toList]
 rw [if_pos (by omega), if_pos (by omega)] at e0
 simpa using e0
def matL : List (List Int) := [[1, 0, 0, 1], [0, -1, 1, 0], [-1, 0, 0, -1], [0, 1, -1, 0], [-1, 0, 0, 1], [0, -1, -1, 0], [1, 0, 0, -1], [0, 1, 1, 0]]
set_option maxRecDepth 100000 in
theorem heap_low {w : World} (h : w.ShapedOpen Tryz.prog) {b : Nat} (hb : b < glow) : b < w.heap.size := by
 have hall : (List.range glow).all (fun b => decide (b < Tryz.prog.globals.size) && (((begin Tryz.prog (fun _ _ => 0) default).world.heap[b]?).bind Obj.row?).isSome) = true := by kernel_rfl
 have hx := List.all_eq_true.1 hall b (List.mem_range.2 hb)
 simp only [Bool.and_eq_true, decide_eq_true_eq] at hx
 obtain ⟨⟨z, t⟩, hz⟩ := Option.isSome_iff_exists.1 hx.2
 obtain ⟨cs, hc, _⟩ := h.1 b z t hx.1 hz
 exact (Array.getElem?_eq_some_iff.1 hc).1
set_option maxRecDepth 100000 in
theorem gw_of {w w0 : World} (h : w.ShapedOpen Tryz.prog) (hh : w0.heap = w.heap) {laid : List (String × DataW Unit)} (hL : laidMetH Tryz.prog laid w0) (hm : ("cellular/symmetry.matrices", Rows.laid_cellular_symmetry_matrices) ∈ laid)
  (hp : (laid.all fun x => x.2.handleName?.isNone) = true) : GW w (fun _ => True) :=
 ⟨fun b hb => ⟨trivial, heap_low h hb⟩, fun g row hg => (by
  rw [MakeChecks.laidMetH_plain _ _ _ hp] at hL
  have hv := Lib.laidMet.reads hL hm
  have key := laid_mat (mat := matL) (g := 0) hv (by kernel_rfl) (by kernel_rfl) Tryz.underlying109 Tryz.underlying108 Tryz.underlying3 Tryz.cells108 Tryz.cells3 rfl (by decide)
  unfold gtab at hg
  split at hg
  ·cases hg
   refine ⟨by decide, fun k x hx => ?_⟩
   have hx' : (matL.flatten.map (GL.int .i64))[k]? = some x := hx
   rw [List.getElem?_map] at hx'
   obtain ⟨z, hz, rfl⟩ := Option.map_eq_some_iff.1 hx'
   have := key k z hz
   unfold World.cell? at this ⊢
   rw [← hh]
   exact this
  ·cases hg), fun g hg => by
  have : g = 2 := by
   unfold gany at hg
   split at hg
   ·rfl
   ·cases hg
  subst this
  exact ⟨by decide, cell_of_shapedOpen_int (P := Tryz.prog) (g := 2) (t := 3) (zero := #[.int .i64 0]) h (of_decide_eq_true (by kernel_rfl)) (by kernel_rfl) rfl (by kernel_rfl) (by kernel_rfl) Tryz.underlying3⟩⟩
theorem true_calls {f : FuncId} {us : List V} {vals : List Value} {W : World} (h : PureCall Tryz.prog f us (.u (.one (.d (.bool true))))) (hgw : GW W (fun _ => True)) (hl : vals.length = us.length)
  (hv : ∀ (i : Nat) (x : V) (u : Value), us[i]? = some x → vals[i]? = some u → vsim (fun _ => undef) W (fun _ => True) x u) :
  Calls Tryz.prog f vals.toArray W fun e W' => e = .returned (.bool true) ∧ Below W.heap.size W W' :=
 (h.2 (fun _ => undef) W (fun _ => True) ⟨fun _ _ => trivial, hgw⟩ vals hl hv).mono fun e W' ⟨u, he, hb, hs⟩ => by
  have hu : u = .bool true := hs
  subst hu
  exact ⟨he, hb.toBelow⟩
set_option maxRecDepth 100000 in
theorem lift_row {H : Type} {enc : TypeId × Value → H} {a : Assume} {os : Os} {f : FuncId} {fn : Func} {s : ChangeSpec} {conds : List PathCond} {apart fresh handsOn again : Bool} {laid : List (String × DataW Unit)}
  (started : os.Started) (noInit : Tryz.prog.inits.idxOf? f = none) (hfn : Tryz.prog.funcs[f]? = some fn)
  (witness : ∃ (w : World) (tape : Tape) (i : Input), w.os = os ∧ (w.forCall tape i).Shaped Tryz.prog ∧ i.vars = [] ∧ Input.okWide Tryz.prog (w.forCall tape i) .any w.heap.size f i ∧
   ((s.pre enc Tryz.prog fn conds apart (w.forCall tape i).memory i.args ∧ laidMetH Tryz.prog laid (w.forCall tape i).memory) ∧ sizedMet enc Tryz.prog fn (OpenSpec.ofChange s) apart (w.forCall tape i).memory i.args) ∧ a.holds Tryz.prog (lone (Frame.enter Tryz.prog f i.args .normal) [] (w.forCall tape i)))
  (contract : ∀ (W : World) (base : Nat) (args : Array Value) (ds gs : List (DataW H)) (before : List MemPlace),
   (∀ (j : Nat) t v, fn.params[j]? = some t → args[j]? = some v → Value.okWide Tryz.prog W .any base t v) →
   DataW.Whole enc Tryz.prog fn.params.toList s.vars apart W args.toList ds gs before → W.ShapedOpen Tryz.prog → (∃ W0 : World, W0.heap = W.heap ∧ laidMetH Tryz.prog laid W0) →
   Calls Tryz.prog f args W fun e W' => ∃ v, e = .returned v ∧ s.post enc Tryz.prog fn apart fresh handsOn again W args v W') :
  ReturnsInHanded a Tryz.checked os f .any (fun w args => (s.pre enc Tryz.prog fn conds apart w args ∧ laidMetH Tryz.prog laid w) ∧ sizedMet enc Tryz.prog fn (OpenSpec.ofChange s) apart w args) (s.post enc Tryz.prog fn apart fresh handsOn again) := by
 refine returnsInHanded_of_calls (C := Tryz.checked) Tryz.own started noInit witness ?_
 intro w tape i _ hsh _ hok hpre _
 obtain ⟨_, _, _, fn', hfn', _, _, _, _, hval⟩ := hok
 have e : fn' = fn := Option.some.inj (hfn'.symm.trans hfn)
 subst e
 obtain ⟨⟨⟨ds, gs, before, hw, _⟩, hlaid⟩, _⟩ := hpre
 have hw' := DataW.Whole.of_heap (w' := w.forCall tape i) (by rfl) hw
 refine (contract (w.forCall tape i) w.heap.size i.args ds gs before hval hw' hsh ⟨(w.forCall tape i).memory, rfl, hlaid⟩).mono fun e W' ⟨v, he, hp⟩ => ?_
 subst he
 exact ChangeSpec.post_blind hp
end Go.Proofs.YtfpjnmhdbgbmmaaGreatDoor
