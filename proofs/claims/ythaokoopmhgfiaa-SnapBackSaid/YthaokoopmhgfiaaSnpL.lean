import Derived.Test.YthaokoopmhgfiaaSnpM
set_option linter.unusedVariables false
set_option linter.unusedSimpArgs false
set_option linter.defProp false
noncomputable section
namespace Go.Proofs.Ythaokoopmhgfiaa
open Go.Sym Go.Abu Go.Pev
set_option maxRecDepth 100000
theorem body_eq (l : List Int) : body l = l.drop 10 := by unfold body; simp only [List.drop_drop]
theorem ptsFrom_len (l : List Int) : ∀ (m i : Nat), (ptsFrom l i m).length = m
 | 0, _ => rfl
 | m + 1, i => by simp [ptsFrom, ptsFrom_len l m]
theorem readS_len {l : List Int} (hb : Bytes l) : (readS l).1.m.pts.length ≤ 1000 := by
 unfold readS;split
 ·exact Nat.zero_le _
 ·split
  ·rename_i x0 x1 t x9 _ _ _ g9;have b9 := hb x9 (List.mem_of_getElem? g9);split
   ·split
    ·show (ptsFrom (body l) 0 x9.toNat).length ≤ 1000
     rw [ptsFrom_len];omega
    ·exact Nat.zero_le _
   ·exact Nat.zero_le _
  ·exact Nat.zero_le _
theorem b2s_nil : RF.ev .b2s [.sl []] = some (.v (.string (str []))) := b2s_B []
theorem str_self (b : ByteArray) : strB .eql b b = some (.v (.bool true)) := by rw [s_eql, beq_self_eq_true]
theorem copyB {l : List Int} (h : l.length ≤ 1000) : RF.ev (.app 1 1) [.sl [], .v (.int .i64 0), .sl (B l)] = some (.sl (B l)) := (app1 (l := []) (k := l) (by simp; omega)).trans (by simp)
end Go.Proofs.Ythaokoopmhgfiaa
