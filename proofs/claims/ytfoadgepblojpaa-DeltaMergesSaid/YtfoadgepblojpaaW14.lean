/-
  The walk of delta.Invert.
-/
import Derived.Test.YtfoadgepblojpaaW12
namespace Go.Proofs.Ytfoadgepblojpaa
open Go.AM Go.Proofs Go.Sort

def midI (id : Nat) : Option (Nat × List Nat) := match id with
  | 7 => some (10, [2, 3, 6, 7])
  | _ => none
def tb9m : Tb := { tb with call := ct9, eff := eff9, mid := midI }
theorem tb9m_ok : TbOk Try.prog tb9m := { tb_ok with call := ct9_ok, eff := fun cx f us d ρ σ T K hd h hT => eff9_ok cx f us d ρ σ T K hd h hT }
theorem tb9m_ty : tb9m.ty = ty := rfl
theorem tb9m_eqn : tb9m.eqn = eqn := rfl
theorem tb9m_key : tb9m.key = key := rfl
theorem tb9m_mid : tb9m.mid = midI := rfl
theorem tb9m_call : tb9m.call = ct9 := rfl
theorem tb9m_eff : tb9m.eff = eff9 := rfl
attribute [simp] tb9m_mid tb9m_ty tb9m_eqn tb9m_key tb9m_call tb9m_eff midI

def mixI (l : List Ch) (i : Nat) : List Ch := (l.take i).map Ch.inv ++ l.drop i
theorem mixI_length (l : List Ch) (i : Nat) (h : i ≤ l.length) : (mixI l i).length = l.length := by simp [mixI]; omega
theorem mixI_get {l : List Ch} {i : Nat} (h : i < l.length) : (mixI l i)[i]? = some l[i] := by
  unfold mixI
  rw [List.getElem?_append_right (by simp; omega)]
  have : i - ((l.take i).map Ch.inv).length = 0 := by simp; omega
  rw [this, List.getElem?_drop, Nat.add_zero, List.getElem?_eq_getElem h]
theorem mixI_set {l : List Ch} {i : Nat} (h : i < l.length) : (mixI l i).set i l[i].inv = mixI l (i + 1) := by
  unfold mixI
  rw [List.set_append_right _ _ (by simp; omega)]
  have : i - ((l.take i).map Ch.inv).length = 0 := by simp; omega
  rw [this, List.drop_eq_getElem_cons h, List.set_cons_zero, take_up h, List.map_append, List.append_assoc]
  rfl
theorem invert_spec (cs : List Ch) (hl : cs.length ≤ 1000) : PFn Try.prog 16 [.one (.d (chL cs))] (fun v => v.wk (invV cs)) := by
  have hl' : cs.length ≤ 100000 := by omega
  have hla := big hl'
  refine pfn_L tb9m_ok mixed _ Try.func16 rfl (by kernel_rfl) (by simp [Try.ntmps16]) (by kernel_rfl) fun cx hn => ?_
  simp -dsimp [chL, hl', Try.results16]
  refine ⟨fun h1 => by simp [invV, h1, chL], fun h1 => ?_⟩
  refine loop_up tb9m_ok mixed cs.length (fun i ρ σ => ρ 3 = .one (.own 10) ∧ ρ 11 = .one (.own 10) ∧ ρ 12 = .int cs.length ∧ ρ 13 = .int i ∧ σ 10 = some (.row 4 49 ((mixI cs i).map Ch.row))) (by rw [hn]; kernel_rfl) (by simp [mixI]) ?_
  rintro i ρ σ hi ⟨h3, h11, h12, h13, s10⟩
  have hml := mixI_length cs i hi
  by_cases hlt : i < cs.length
  · have hg := mixI_get hlt
    have hs : ((mixI cs i).map Ch.row).set i [.int .i64 cs[i].x, .int .i64 cs[i].y, .int .i64 cs[i].t, .int .i64 cs[i].f] = (mixI cs (i + 1)).map Ch.row := by
      rw [← mixI_set hlt, List.map_set]; rfl
    simp -dsimp [h3, h11, h12, h13, s10, hml, hlt, Ch.row, Try.results16, wrap_up hlt hla]
    have hgi := (List.getElem?_eq_some_iff.1 hg).2
    rw [hgi]
    exact hs
  · have hmi : mixI cs i = cs.map Ch.inv := by unfold mixI; rw [List.take_of_length_le (by omega), List.drop_of_length_le (by omega), List.append_nil]
    rw [hmi] at s10
    simp -dsimp [h3, h11, h12, h13, s10, hlt, Try.results16, invV, h1, chL]
end Go.Proofs.Ytfoadgepblojpaa
