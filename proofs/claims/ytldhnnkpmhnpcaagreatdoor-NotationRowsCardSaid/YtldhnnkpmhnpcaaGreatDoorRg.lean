/- From the form's reading of rules, patterns, motions and numbers to the plain structures. -/
import Derived.Test.YtldhnnkpmhnpcaaGreatDoorRows
import Derived.Test.YtldhnnkpmhnpcaaGreatDoorMdx1
import Derived.ProofKit
import Derived.Lib.LaidU8
import Derived.Shelf.Vars
import Derived.HandedShaped
import Derived.Carry
import Derived.ReadAgain
import Derived.Deep.Strs
import Derived.OpenShut
import Derived.LaidMore
import Derived.Lay
import Derived.SevenTiedAt
import Derived.Stop.Joined
namespace Go.Proofs.YtldhnnkpmhnpcaaGreatDoor
open Go.AM Go.Proofs Go.ChangeShapes Go.WideShapes Go.ChangeAt Go.RowKit Go.Deep
theorem Tryz.own : ownKnob Tryz.prog.godebug = none := by kernel_rfl
theorem Tryz.laidOut : laidOutB Tryz.prog = true := by kernel_rfl
theorem Tryz.cells137 : Tryz.prog.cellsOf 137 = 4 := by kernel_rfl
theorem Tryz.cells221 : Tryz.prog.cellsOf 221 = 1 := by kernel_rfl
theorem Tryz.cells257 : Tryz.prog.cellsOf 257 = 20 := by kernel_rfl
theorem Tryz.cells3 : Tryz.prog.cellsOf 3 = 1 := by kernel_rfl
theorem repRows_of {w : World} {F : Nat → Prop} {sz b : Nat} : ∀ (rows : List (List L)) (o : Nat), (∀ i r, rows[i]? = some r → r.length = sz ∧ repRow w F r b (o + i * sz)) → repRows w F sz rows b o
 | [], _, _ => trivial
 | r :: rows, o, h => ⟨by simpa using h 0 r rfl, repRows_of rows (o + sz) fun i r' hr => by
   have := h (i + 1) r' (by simpa using hr)
   rw [Nat.add_mul, Nat.one_mul] at this
   rwa [show o + sz + i * sz = o + (i * sz + sz) by omega]⟩
section
variable {H : Type} {enc : TypeId × Value → H} {W : World} {spare : Nat → Bool} {held : Bool}
variable {φ : Nat → Value} {base : Nat}
set_option maxRecDepth 100000 in
theorem arg_t5 {v : Value} {d : DataW H} {ps : List MemPlace} (hv : Value.okWide Tryz.prog W .any base 5 v) (h : DataW.Trod enc Tryz.prog W 0 (fun _ => true) true 5 v d ps) :
  ∃ n : Int, (0 ≤ n ∧ n ≤ 255) ∧ vsim φ W (fun _ => True) (.u (.one (.d (.int .u8 n)))) v := by
 obtain ⟨x, rfl, _, _, wx⟩ := open_int Tryz.underlying5 hv h
 exact ⟨x, by simpa [Lit.wf, IntKind.min, IntKind.max, IntKind.signed, IntKind.bits] using wx, rfl⟩
end
theorem flat_get {r : Nat} : ∀ (mat : List (List Int)) (k : Nat) (z : Int), (∀ x ∈ mat, x.length = r) → mat.flatten[k]? = some z → ∃ i j row, mat[i]? = some row ∧ row[j]? = some z ∧ k = i * r + j ∧ j < r
 | [], k, z, _, h => by simp at h
 | x :: mat, k, z, hr, h => by
  have hx := hr x (by simp)
  rw [List.flatten_cons] at h
  by_cases hk : k < x.length
  ·rw [List.getElem?_append_left hk] at h
   exact ⟨0, k, x, rfl, h, by omega, by omega⟩
  ·rw [List.getElem?_append_right (by omega)] at h
   obtain ⟨i, j, row, h1, h2, h3, h4⟩ := flat_get mat _ z (fun y hy => hr y (by simp [hy])) h
   exact ⟨i + 1, j, row, by simpa using h1, h2, by rw [Nat.add_mul]; omega, h4⟩
theorem laid_mat {P : Program} {w : World} {nm : String} {m r g : Nat} {t e i : TypeId} {mat : List (List Int)} (h : Lib.VarReads P w nm (.agg (mat.map fun x => .agg (x.map fun z => .lit (.int .i64 z)))))
  (hg : P.globalNamed nm = some g) (hty : (P.globals[g]?).map (·.type) = some t) (ht : P.underlying t = some (.array m e)) (he : P.underlying e = some (.array r i)) (hi : P.underlying i = some (.int .i64)) (ce : P.cellsOf e = r) (ci : P.cellsOf i = 1)
  (hm : mat.length = m) (hr : ∀ x ∈ mat, x.length = r) (k : Nat) (z : Int) (hk : mat.flatten[k]? = some z) : w.cell? ⟨g, k, none⟩ = some (.int .i64 z) := by
 obtain ⟨a, b, row, h1, h2, rfl, hb⟩ := flat_get mat k z hr hk
 obtain ⟨g', t', cs, fuel, p, hg', hty', hvar, hd⟩ := h
 obtain rfl := Option.some.inj (hg.symm.trans hg')
 obtain rfl := Option.some.inj (hty.symm.trans hty')
 have ha : a < m := by rw [← hm]; exact (List.getElem?_eq_some_iff.1 h1).1
 obtain ⟨f1, d1, q1, hd1, ht1⟩ := Lib.array_elem ht hd a ha
 rw [List.getElem?_map, h1] at hd1
 cases hd1
 obtain ⟨f2, d2, q2, hd2, ht2⟩ := Lib.array_elem he ht1 b hb
 rw [List.getElem?_map, h2] at hd2
 cases hd2
 rw [ce, ci] at ht2
 obtain ⟨n, hn, hx, _⟩ := DataW.trod_int hi ht2
 cases hx
 have e0 := congrArg (·[0]?) hn
 simp only [List.getElem?_take, List.getElem?_drop] at e0
 rw [World.var?_cell hg hvar, ← Array.getElem?_toList]
 rw [if_pos (by omega), if_pos (by omega)] at e0
 simpa using e0
def matL : List (List Int) := [[1, 0, 0, 1], [0, -1, 1, 0], [-1, 0, 0, -1], [0, 1, -1, 0], [-1, 0, 0, 1], [0, -1, -1, 0], [1, 0, 0, -1], [0, 1, 1, 0]]
set_option maxRecDepth 100000 in
theorem heap_low {w : World} (h : w.ShapedOpen Tryz.prog) {b : Nat} (hb : b < glow) : b < w.heap.size := by
 have hall : (List.range glow).all (fun b => decide (b < Tryz.prog.globals.size) && (((begin Tryz.prog (fun _ _ => 0) default).world.heap[b]?).bind Obj.row?).isSome) = true := by kernel_rfl
 have hx := List.all_eq_true.1 hall b (List.mem_range.2 hb)
 simp only [Bool.and_eq_true, decide_eq_true_eq] at hx
 obtain ⟨⟨z, t⟩, hz⟩ := Option.isSome_iff_exists.1 hx.2
 obtain ⟨cs, hc, _⟩ := h.1 b z t hx.1 hz
 exact (Array.getElem?_eq_some_iff.1 hc).1
theorem laid_pow {w : World} (h : Lib.VarReads Tryz.prog w "internal/strconv.uint64pow10" (.agg ((List.range 20).map fun i => .lit (.int .u64 ((10 ^ i : Nat) : Int))))) : ∃ t fz, w.heap[5]? = some (.cells ((List.range 20).map fun i => Value.int .u64 ((10 ^ i : Nat) : Int)).toArray t fz) := by
 obtain ⟨g', t', cs, fuel, p, hg', hty', hvar, hd⟩ := h
 have hg : Tryz.prog.globalNamed "internal/strconv.uint64pow10" = some 5 := by kernel_rfl
 have hty : (Tryz.prog.globals[5]?).map (·.type) = some 257 := by kernel_rfl
 obtain rfl := Option.some.inj (hg.symm.trans hg')
 obtain rfl := Option.some.inj (hty.symm.trans hty')
 have hcs : cs = ((List.range 20).map fun i => Value.int .u64 ((10 ^ i : Nat) : Int)).toArray := by
  obtain ⟨xs, m, _, _, hl, _, _⟩ := DataW.trod_array Tryz.underlying257 hd
  have hlen : cs.toList.length = 20 := by rw [hl, Tryz.cells257]
  apply Array.ext'
  apply List.ext_getElem?
  intro k
  rcases Nat.lt_or_ge k 20 with hk | hk
  ·obtain ⟨f1, d1, q1, hd1, ht1⟩ := Lib.array_elem Tryz.underlying257 hd k hk
   rw [List.getElem?_map, List.getElem?_range hk] at hd1
   cases hd1
   rw [Tryz.cells221] at ht1
   obtain ⟨n, hn, hx, _⟩ := DataW.trod_int Tryz.underlying221 ht1
   cases hx
   have e0 := congrArg (·[0]?) hn
   simp only [List.getElem?_take, List.getElem?_drop] at e0
   rw [if_pos (by omega)] at e0
   rw [List.toList_toArray, List.getElem?_map, List.getElem?_range hk]
   simpa using e0
  ·rw [List.getElem?_eq_none (by omega), List.getElem?_eq_none (by simpa using hk)]
 simp only [World.var?, hg, Option.bind_some] at hvar
 split at hvar
 ·rename_i c t fr hb
  cases hvar
  rw [hcs] at hb
  exact ⟨t, fr, hb⟩
 ·cases hvar
set_option maxRecDepth 100000 in
theorem gw_of {w w0 : World} (h : w.ShapedOpen Tryz.prog) (hh : w0.heap = w.heap) {laid : List (String × DataW Unit)} (hL : laidMetH Tryz.prog laid w0) (hm : ("cellular/symmetry.matrices", Rows.laid_cellular_symmetry_matrices) ∈ laid) (hm2 : ("internal/strconv.uint64pow10", Rows.laid_internal_strconv_uint64pow10) ∈ laid)
  (hp : (laid.all fun x => x.2.handleName?.isNone) = true) : GW w (fun _ => True) :=
 ⟨fun b hb => ⟨trivial, heap_low h hb⟩, fun g row hg => (by
  rw [MakeChecks.laidMetH_plain _ _ _ hp] at hL
  have hv := Lib.laidMet.reads hL hm
  have key := laid_mat (mat := matL) (g := 0) hv (by kernel_rfl) (by kernel_rfl) Tryz.underlying138 Tryz.underlying137 Tryz.underlying3 Tryz.cells137 Tryz.cells3 rfl (by decide)
  unfold gtab at hg
  split at hg
  ·cases hg
   refine ⟨by decide, fun k x hx => ?_⟩
   have hx' : (matL.flatten.map (GL.int .i64))[k]? = some x := hx
   rw [List.getElem?_map] at hx'
   obtain ⟨z, hz, rfl⟩ := Option.map_eq_some_iff.1 hx'
   have := key k z hz
   unfold World.cell? at this ⊢
   rw [← hh]
   exact this
  ·cases hg), fun g hg => by
  have : g = 2 := by
   unfold gany at hg
   split at hg
   ·rfl
   ·cases hg
  subst this
  exact ⟨by decide, cell_of_shapedOpen_int (P := Tryz.prog) (g := 2) (t := 3) (zero := #[.int .i64 0]) h (of_decide_eq_true (by kernel_rfl)) (by kernel_rfl) rfl (by kernel_rfl) (by kernel_rfl) Tryz.underlying3⟩, fun g hg => by
  have : g = 5 := by
   unfold gpow at hg
   split at hg
   ·rfl
   ·cases hg
  subst this
  rw [MakeChecks.laidMetH_plain _ _ _ hp] at hL
  have hv := Lib.laidMet.reads hL hm2
  rw [show Rows.laid_internal_strconv_uint64pow10 = (DataW.agg ((List.range 20).map fun i => DataW.lit (.int .u64 ((10 ^ i : Nat) : Int)))) from by kernel_rfl] at hv
  rw [← hh]
  exact ⟨by decide, laid_pow hv⟩⟩
theorem true_calls {f : FuncId} {us : List V} {vals : List Value} {W : World} (h : PureCall Tryz.prog f us (.u (.one (.d (.bool true))))) (hgw : GW W (fun _ => True)) (hl : vals.length = us.length)
  (hv : ∀ (i : Nat) (x : V) (u : Value), us[i]? = some x → vals[i]? = some u → vsim (fun _ => undef) W (fun _ => True) x u) :
  Calls Tryz.prog f vals.toArray W fun e W' => e = .returned (.bool true) ∧ Below W.heap.size W W' :=
 (h.2 (fun _ => undef) W (fun _ => True) ⟨fun _ _ => trivial, hgw⟩ vals hl hv).mono fun e W' ⟨u, he, hb, hs⟩ => by
  have hu : u = .bool true := hs
  subst hu
  exact ⟨he, hb.toBelow⟩
set_option maxRecDepth 100000 in
theorem lift_row {H : Type} {enc : TypeId × Value → H} {a : Assume} {os : Os} {f : FuncId} {fn : Func} {s : ChangeSpec} {conds : List PathCond} {apart fresh handsOn again : Bool} {laid : List (String × DataW Unit)}
  (started : os.Started) (noInit : Tryz.prog.inits.idxOf? f = none) (hfn : Tryz.prog.funcs[f]? = some fn)
  (witness : ∃ (w : World) (tape : Tape) (i : Input), w.os = os ∧ (w.forCall tape i).Shaped Tryz.prog ∧ i.vars = [] ∧ Input.okWide Tryz.prog (w.forCall tape i) .any w.heap.size f i ∧
   ((s.pre enc Tryz.prog fn conds apart (w.forCall tape i).memory i.args ∧ laidMetH Tryz.prog laid (w.forCall tape i).memory) ∧ sizedMet enc Tryz.prog fn (OpenSpec.ofChange s) apart (w.forCall tape i).memory i.args) ∧ a.holds Tryz.prog (lone (Frame.enter Tryz.prog f i.args .normal) [] (w.forCall tape i)))
  (contract : ∀ (W : World) (base : Nat) (args : Array Value) (ds gs : List (DataW H)) (before : List MemPlace),
   (∀ (j : Nat) t v, fn.params[j]? = some t → args[j]? = some v → Value.okWide Tryz.prog W .any base t v) →
   DataW.Whole enc Tryz.prog fn.params.toList s.vars apart W args.toList ds gs before → W.ShapedOpen Tryz.prog → (∃ W0 : World, W0.heap = W.heap ∧ laidMetH Tryz.prog laid W0) →
   Calls Tryz.prog f args W fun e W' => ∃ v, e = .returned v ∧ s.post enc Tryz.prog fn apart fresh handsOn again W args v W') :
  ReturnsInHanded a Tryz.checked os f .any (fun w args => (s.pre enc Tryz.prog fn conds apart w args ∧ laidMetH Tryz.prog laid w) ∧ sizedMet enc Tryz.prog fn (OpenSpec.ofChange s) apart w args) (s.post enc Tryz.prog fn apart fresh handsOn again) := by
 refine returnsInHanded_of_calls (C := Tryz.checked) Tryz.own started noInit witness ?_
 intro w tape i _ hsh _ hok hpre _
 obtain ⟨_, _, _, fn', hfn', _, _, _, _, hval⟩ := hok
 have e : fn' = fn := Option.some.inj (hfn'.symm.trans hfn)
 subst e
 obtain ⟨⟨⟨ds, gs, before, hw, _⟩, hlaid⟩, _⟩ := hpre
 have hw' := DataW.Whole.of_heap (w' := w.forCall tape i) (by rfl) hw
 refine (contract (w.forCall tape i) w.heap.size i.args ds gs before hval hw' hsh ⟨(w.forCall tape i).memory, rfl, hlaid⟩).mono fun e W' ⟨v, he, hp⟩ => ?_
 subst he
 exact ChangeSpec.post_blind hp
end Go.Proofs.YtldhnnkpmhnpcaaGreatDoor
