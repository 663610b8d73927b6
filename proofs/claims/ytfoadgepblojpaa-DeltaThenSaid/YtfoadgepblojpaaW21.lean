/-
  The table with the contracts of all functions that the laws call; few and awake.
-/
import Derived.Test.YtfoadgepblojpaaW20
import Derived.Test.YtfoadgepblojpaaW16
import Derived.Test.YtfoadgepblojpaaW14
namespace Go.Proofs.Ytfoadgepblojpaa
open Go.AM Go.Proofs Go.Sort

def ofL (a b : List Cl) : List Ch := if rightCl a && rightCl b then ofR a b else []
def ofE (a b : List Cl) : Int := if rightCl a && rightCl b then 0 else 2
def invL (l : List Ch) : List Ch := if rightCh l then l.map Ch.inv else []
def appL (p : List Cl) (l : List Ch) : List Cl := (applyR p l).1
def appE (p : List Cl) (l : List Ch) : Int := (applyR p l).2
def thnL (a b : List Ch) : List Ch := (thenR a b).1
def thnE (a b : List Ch) : Int := (thenR a b).2
def mrgL (a b : List Ch) : List Ch := (mergeR a b).1
def mrgX (a b : List Ch) : Int := (mergeR a b).2.1.1
def mrgY (a b : List Ch) : Int := (mergeR a b).2.1.2
def mrgE (a b : List Ch) : Int := (mergeR a b).2.2
theorem ofV_eq (a b : List Cl) : ofV a b = .tup [.one (.d (.sl 4 ((ofL a b).map Ch.row))), .one (.d (.int .i64 (ofE a b)))] := by
  unfold ofV ofL ofE
  cases rightCl a && rightCl b <;> rfl
theorem invV_eq (l : List Ch) : invV l = .one (.d (.sl 4 ((invL l).map Ch.row))) := rfl
theorem appV_eq (p : List Cl) (l : List Ch) : clPair (applyR p l) = .tup [.one (.d (.sl 3 ((appL p l).map Cl.row))), .one (.d (.int .i64 (appE p l)))] := rfl
theorem thenV_eq (a b : List Ch) : chPair (thenR a b) = .tup [.one (.d (.sl 4 ((thnL a b).map Ch.row))), .one (.d (.int .i64 (thnE a b)))] := rfl
theorem mrgV_eq (a b : List Ch) : mergeV (mergeR a b) = .tup [.one (.d (.sl 4 ((mrgL a b).map Ch.row))), .agg [.d (.int .i64 (mrgX a b)), .d (.int .i64 (mrgY a b))], .one (.d (.int .i64 (mrgE a b)))] := rfl

def c11 (us : List V) : Option V := match us with
  | [v, v'] => match clV v, clV v' with
    | some a, some b => if a.length ≤ 1000 ∧ b.length ≤ 1000 then some (.tup [.one (.d (.sl 4 ((ofL a b).map Ch.row))), .one (.d (.int .i64 (ofE a b)))]) else none
    | _, _ => none
  | _ => none
def c16 (us : List V) : Option V := match us with
  | [v] => match chV v with
    | some l => if l.length ≤ 1000 then some (.one (.d (.sl 4 ((invL l).map Ch.row)))) else none
    | none => none
  | _ => none
def c18 (us : List V) : Option V := match us with
  | [v, v'] => match clV v, chV v' with
    | some p, some l => if p.length ≤ 1000 ∧ l.length ≤ 1000 then some (.tup [.one (.d (.sl 3 ((appL p l).map Cl.row))), .one (.d (.int .i64 (appE p l)))]) else none
    | _, _ => none
  | _ => none
def c20 (us : List V) : Option V := match us with
  | [v, v'] => match clV v, clV v' with
    | some a, some b => if a.length ≤ 100000 then some (.bool (decide (a = b))) else none
    | _, _ => none
  | _ => none
def c21 (us : List V) : Option V := match us with
  | [v, v'] => match chV v, chV v' with
    | some a, some b => if a.length ≤ 1000 ∧ b.length ≤ 1000 then some (.tup [.one (.d (.sl 4 ((thnL a b).map Ch.row))), .one (.d (.int .i64 (thnE a b)))]) else none
    | _, _ => none
  | _ => none
def c23 (us : List V) : Option V := match us with
  | [v, v'] => match chV v, chV v' with
    | some a, some b => if a.length ≤ 1000 ∧ b.length ≤ 1000 then some (.tup [.one (.d (.sl 4 ((mrgL a b).map Ch.row))), .agg [.d (.int .i64 (mrgX a b)), .d (.int .i64 (mrgY a b))], .one (.d (.int .i64 (mrgE a b)))]) else none
    | _, _ => none
  | _ => none
def ct12 (f : FuncId) (us : List V) : Option V := match f with
  | 11 => c11 us
  | 12 => c11 us
  | 16 => c16 us
  | 17 => c16 us
  | 18 => c18 us
  | 19 => c18 us
  | 20 => c20 us
  | 21 => c21 us
  | 22 => c21 us
  | 23 => c23 us
  | 24 => c23 us
  | _ => ct10 f us
theorem ct12_ok : ∀ f us v, ct12 f us = some v → PureCall Try.prog f us v := by
  intro f us v h
  unfold ct12 at h
  split at h
  · unfold c11 at h
    split at h
    · split at h
      · rename_i a b ha hb
        split at h
        · rename_i hl; cases h; rw [← ofV_eq]; exact (of_spec a b hl.1 hl.2).pureW.wk (wk22 (clV_wk ha) (clV_wk hb))
        · cases h
      · cases h
    · cases h
  · unfold c11 at h
    split at h
    · split at h
      · rename_i a b ha hb
        split at h
        · rename_i hl; cases h; rw [← ofV_eq]; exact (of53_spec a b hl.1 hl.2).pureW.wk (wk22 (clV_wk ha) (clV_wk hb))
        · cases h
      · cases h
    · cases h
  · unfold c16 at h
    split at h
    · split at h
      · rename_i a ha
        split at h
        · rename_i hl; cases h; rw [← invV_eq]; exact (invert_spec a hl).pureW.wk (wk1 (chV_wk ha))
        · cases h
      · cases h
    · cases h
  · unfold c16 at h
    split at h
    · split at h
      · rename_i a ha
        split at h
        · rename_i hl; cases h; rw [← invV_eq]; exact (invert53_spec a hl).pureW.wk (wk1 (chV_wk ha))
        · cases h
      · cases h
    · cases h
  · unfold c18 at h
    split at h
    · split at h
      · rename_i a b ha hb
        split at h
        · rename_i hl; cases h; rw [← appV_eq]; exact (apply_spec a b hl.1 hl.2).pureW.wk (wk22 (clV_wk ha) (chV_wk hb))
        · cases h
      · cases h
    · cases h
  · unfold c18 at h
    split at h
    · split at h
      · rename_i a b ha hb
        split at h
        · rename_i hl; cases h; rw [← appV_eq]; exact (apply53_spec a b hl.1 hl.2).pureW.wk (wk22 (clV_wk ha) (chV_wk hb))
        · cases h
      · cases h
    · cases h
  · unfold c20 at h
    split at h
    · split at h
      · rename_i a b ha hb
        split at h
        · rename_i hl; cases h; exact (same05_spec a b hl).pure.wk (wk22 (clV_wk ha) (clV_wk hb))
        · cases h
      · cases h
    · cases h
  · unfold c21 at h
    split at h
    · split at h
      · rename_i a b ha hb
        split at h
        · rename_i hl; cases h; rw [← thenV_eq]; exact (then_spec a b hl.1 hl.2).pureW.wk (wk22 (chV_wk ha) (chV_wk hb))
        · cases h
      · cases h
    · cases h
  · unfold c21 at h
    split at h
    · split at h
      · rename_i a b ha hb
        split at h
        · rename_i hl; cases h; rw [← thenV_eq]; exact (then53_spec a b hl.1 hl.2).pureW.wk (wk22 (chV_wk ha) (chV_wk hb))
        · cases h
      · cases h
    · cases h
  · unfold c23 at h
    split at h
    · split at h
      · rename_i a b ha hb
        split at h
        · rename_i hl; cases h; rw [← mrgV_eq]; exact (merge_spec a b hl.1 hl.2).pureW.wk (wk22 (chV_wk ha) (chV_wk hb))
        · cases h
      · cases h
    · cases h
  · unfold c23 at h
    split at h
    · split at h
      · rename_i a b ha hb
        split at h
        · rename_i hl; cases h; rw [← mrgV_eq]; exact (merge53_spec a b hl.1 hl.2).pureW.wk (wk22 (chV_wk ha) (chV_wk hb))
        · cases h
      · cases h
    · cases h
  · exact ct10_ok f us v h
def tb12 : Tb := { tb with call := ct12, eff := effF ct12 }
theorem tb12_ok : TbOk Try.prog tb12 := { tb_ok with call := ct12_ok, eff := fun cx f us d ρ σ T K hd h hT => effF_ok ct12_ok cx f us d ρ σ T K hd h hT }
theorem tb12_ty : tb12.ty = ty := rfl
theorem tb12_eqn : tb12.eqn = eqn := rfl
theorem tb12_key : tb12.key = key := rfl
theorem tb12_mid : tb12.mid = fun _ => none := rfl
theorem tb12_call : tb12.call = ct12 := rfl
theorem tb12_eff : tb12.eff = effF ct12 := rfl
attribute [simp] tb12_mid tb12_ty tb12_eqn tb12_key tb12_call tb12_eff ct12 c11 c16 c18 c20 c21 c23

theorem few_spec (a b : List Cl) (x y : List Ch) : PFn Try.prog 9 [.one (.d (clL a)), .one (.d (clL b)), .one (.d (chL x)), .one (.d (chL y))] (· = .bool (decide (a.length ≤ 200 ∧ b.length ≤ 200 ∧ x.length ≤ 200 ∧ y.length ≤ 200))) := by
  refine pfn_L tb12_ok mixed _ Try.func9 rfl (by kernel_rfl) (by simp [Try.ntmps9]) (by kernel_rfl) fun cx hn => ?_
  simp -dsimp [chL, clL, Try.results9]
  refine ⟨fun h1 => ⟨fun h2 => ⟨fun h3 => ?_, fun h h1 h2 h3 => by omega⟩, fun h h1 h2 h3 => by omega⟩, fun h h1 h2 h3 => by omega⟩
  have e1 : a.length ≤ 200 := by omega
  have e2 : b.length ≤ 200 := by omega
  have e3 : x.length ≤ 200 := by omega
  simp [e1, e2, e3]
  omega
theorem ex1 : ofL [⟨0, 0, 1⟩, ⟨1, 0, 1⟩] [⟨1, 0, 2⟩, ⟨2, 0, 1⟩] = [⟨0, 0, 1, 0⟩, ⟨1, 0, 1, 2⟩, ⟨2, 0, 0, 1⟩] := by decide
theorem ex2 : ofE [⟨0, 0, 1⟩, ⟨1, 0, 1⟩] [⟨1, 0, 2⟩, ⟨2, 0, 1⟩] = 0 := by decide
theorem ex3 : appL [⟨0, 0, 1⟩, ⟨1, 0, 1⟩] [⟨0, 0, 1, 0⟩, ⟨1, 0, 1, 2⟩, ⟨2, 0, 0, 1⟩] = [⟨1, 0, 2⟩, ⟨2, 0, 1⟩] := by decide
theorem ex4 : appE [⟨0, 0, 1⟩, ⟨1, 0, 1⟩] [⟨0, 0, 1, 0⟩, ⟨1, 0, 1, 2⟩, ⟨2, 0, 0, 1⟩] = 0 := by decide
theorem ex5 : thnL [⟨0, 0, 1, 2⟩] [⟨0, 0, 2, 1⟩] = [] := by decide
theorem ex6 : thnE [⟨0, 0, 1, 2⟩] [⟨0, 0, 2, 1⟩] = 0 := by decide
theorem ex7 : thnE [⟨0, 0, 1, 2⟩] [⟨0, 0, 1, 0⟩] = 17 := by decide
theorem ex8 : mrgE [⟨5, 5, 0, 1⟩] [⟨5, 5, 0, 2⟩] = 17 := by decide
theorem ex9 : mrgX [⟨5, 5, 0, 1⟩] [⟨5, 5, 0, 2⟩] = 5 := by decide
theorem exA : mrgY [⟨5, 5, 0, 1⟩] [⟨5, 5, 0, 2⟩] = 5 := by decide
theorem exB : rightCh [⟨0, 0, 1, 0⟩, ⟨1, 0, 1, 2⟩, ⟨2, 0, 0, 1⟩] = true := by decide
theorem exC : invL [⟨0, 0, 1, 0⟩, ⟨1, 0, 1, 2⟩, ⟨2, 0, 0, 1⟩] = [⟨0, 0, 0, 1⟩, ⟨1, 0, 2, 1⟩, ⟨2, 0, 1, 0⟩] := by decide
set_option maxRecDepth 8000 in
theorem awake_spec : PFn Try.prog 10 [] (· = .bool true) := by
  refine pfn_L tb12_ok mixed _ Try.func10 rfl (by kernel_rfl) (by simp [Try.ntmps10]) (by kernel_rfl) fun cx hn => ?_
  simp -dsimp [decs, dCl, dCh, clV, chV, ex1, ex2, ex3, ex4, ex5, ex6, ex7, ex8, ex9, exA, exB, exC, Ch.row, Cl.row, Try.results10]
end Go.Proofs.Ytfoadgepblojpaa
