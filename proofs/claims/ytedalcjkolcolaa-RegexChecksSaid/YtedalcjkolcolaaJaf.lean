/- Part 6 of the proof: AbMore. -/
import Derived.Laws.MakeOwn
import Derived.Test.YtedalcjkolcolaaJae
section
namespace Go.Ab
open Classical
theorem OpOk.makeSlice {C : Ctx} {o : Oper} {s : St} {d : Nat} {T : TypeId} {x y : Operand} {m by_ : Nat} {c : Bool} {e : TypeId} {k k' : IntKind} {l n : Int} {z : List Value} (hop : o.op = .makeSlice T x y) (hd : o.dst = some d) (hN : d < C.N)
    (hT : slOf C.P T = some (m, by_, c, e)) (hz : zeroOf C.P e = some z) (hzc : z.all isCell = true) (hx : s.lit x = some (.int k l)) (hy : s.lit y = some (.int k' n)) (h0 : 0 ≤ l) (hln : l ≤ n) (hby : (by_ : Int) * n ≤ 281474976710656)
    (h63 : n ≤ 9223372036854775807) : OpOk C o s (s.put d (.own m [] (List.replicate l.toNat (z.map constD)))) := by
  intro g a w hR K Q hK
  obtain ⟨hu, hs, hm0, i, zv, hi, hbyt, hsize, hzv, hzs⟩ := slOf_info hT
  obtain ⟨i', z', hi', hz', hzs', hzl⟩ := zeroOf_info hz
  rw [hi] at hi'
  cases hi'
  rw [hzv] at hz'
  cases hz'
  have hm : 0 < m := Nat.pos_of_ne_zero hm0
  have hrun : (execOp a.eval o).run C.P w = .ok (.value (.slice (some ⟨w.heap.size, 0, none⟩) l.toNat n.toNat)) { w with heap := w.heap.push (.cells (madeCells zv.cells (n.toNat * m)) e) } := by
    have := run_make (P := C.P) w T e i zv hu hi hzv k k' l n h0 hln (by rw [hbyt]; exact hby) h63
    rw [hsize] at this
    simp only [execOp, hop, hR.lit hx, hR.lit hy]
    simp [this]
  refine wp_val hrun ?_
  obtain ⟨r1, r2, r3, r4, r5⟩ := hR.push (madeCells zv.cells (n.toNat * m)) e
  have hzlen : z.length = m := by rw [← hzl, Array.length_toList, hzs', hsize]
  have hel : Elems { w with heap := w.heap.push (.cells (madeCells zv.cells (n.toNat * m)) e) } g.Pr (madeCells zv.cells (n.toNat * m)) m ([] ++ List.replicate l.toNat (z.map constD)) := by
    intro q j hq hj
    simp only [List.nil_append, List.length_replicate] at hq
    simp only [List.nil_append, List.getElem_replicate, List.length_map, hzlen] at hj ⊢
    have hlt : q * m + j < n.toNat * m := mul_lt_of (by omega) hj
    have hzcs : zv.cells.size = m := by rw [hzs', hsize]
    have hmod : (q * m + j) % zv.cells.size = j := by rw [hzcs, Nat.mul_comm, Nat.mul_add_mod, Nat.mod_eq_of_lt hj]
    refine ⟨z[j]'(by omega), ?_, ?_⟩
    · simp only [madeCells, Array.getElem?_map, Array.getElem?_range, hlt, if_true, Option.map_some, hmod]
      congr 1
      have : j < zv.cells.size := by omega
      simp only [getElem!_pos zv.cells j this, ← hzl, Array.getElem_toList]
    · rw [List.getElem_map]
      exact RepD.constD _ (List.all_eq_true.1 hzc _ (List.getElem_mem _))
  obtain ⟨g', hg'⟩ := OpOk.append_core (es := []) (nw := List.replicate l.toNat (z.map constD)) (m := m) (cap := n.toNat) hN r3 (.inl r4) r1 (v := .slice (some ⟨w.heap.size, 0, none⟩) l.toNat n.toNat) (by simp only [List.length_nil, List.length_replicate, Nat.zero_add]) r2 hm (by rw [size_madeCells]) (by simp only [List.length_nil, List.length_replicate, Nat.zero_add]; omega)
    (fun y hy => by simp only [List.nil_append, List.mem_replicate] at hy; rw [hy.2, List.length_map, hzlen]) hel (fun k hk => absurd hk (r5 k))
  rw [hd]
  exact hK g' _ _ hg'
end Go.Ab
end
