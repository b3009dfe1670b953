/- What the printed functions of post compute. -/
import Derived.Test.YtlmbdcgciieikaaQPostAdds
namespace Go.Proofs.Ytlmbdcgciieikaa.Pu
open Go.RowKit Go.Proofs.YtlmbdcgciieikaaW.PrintWords Go.Proofs.YtlmbdcgciieikaaW.PrintLast Go.Proofs.YtlmbdcgciieikaaW.PrintMore Go.Proofs.Ytlmbdcgciieikaa.PPostAdds
set_option linter.unusedVariables false
set_option linter.unusedSimpArgs false

/-- A list of messages that is not heavy. -/
def Light (l : List S29) : Prop := l.length ≤ 1000 ∧ ∀ m ∈ l, m.f7.length ≤ 1000
theorem wrap64_id {x : Int} (h : -9000000000000000000 ≤ x) (h2 : x ≤ 9000000000000000000) : wrap64 x = x := by
  unfold wrap64
  go_num
theorem rd_mem {l : List S29} {k : Nat} (h : k < l.length) : rd_T29 l (k : Int) ∈ l := by
  unfold rd_T29
  simp [List.getD, h]
theorem rd_get {l : List S29} {k : Nat} (h : k < l.length) : rd_T29 l (k : Int) = l[k] := by
  unfold rd_T29
  simp [List.getD, h]
/-! ### heavy -/
theorem heavy_l (l : List S29) : ∀ (j k : Nat) (n : Int), l.length + 1 - k = j → k ≤ l.length → k ≤ 1000 → 0 ≤ n → n ≤ 1001 * k → 
    ∃ r, falseworklaw9_heavy.l0 (j + 1) l n k = some r ∧ (r = false → n ≤ 1000 ∧ l.length ≤ 1000 ∧ ∀ m ∈ l.drop k, m.f7.length ≤ 1000)
  | 0, k, n, h1, h2, _, h3, h4 => by omega
  | j + 1, k, n, h1, h2, hk, h3, h4 => by
    unfold falseworklaw9_heavy.l0
    by_cases c1 : (k : Int) < (l.length : Int)
    · rw [if_pos c1]
      by_cases c2 : (k : Int) < 1000
      · rw [if_pos c2, if_pos (by omega)]
        have hm : 0 ≤ mn (((rd_T29 l (k : Int)).f7).length : Int) 1000 ∧ mn (((rd_T29 l (k : Int)).f7).length : Int) 1000 ≤ 1000 ∧ (mn (((rd_T29 l (k : Int)).f7).length : Int) 1000 < 1000 → (rd_T29 l (k : Int)).f7.length ≤ 1000) := by
          unfold mn
          split <;> omega
        obtain ⟨g, hg⟩ : ∃ g, g = mn (((rd_T29 l (k : Int)).f7).length : Int) 1000 := ⟨_, rfl⟩
        rw [← hg] at hm ⊢
        rw [wrap64_id (x := n + 1) (by omega) (by omega), wrap64_id (x := n + 1 + g) (by omega) (by omega), wrap64_id (x := (k : Int) + 1) (by omega) (by omega)]
        obtain ⟨r, hr, hf⟩ := heavy_l l j (k + 1) (n + 1 + g) (by omega) (by omega) (by omega) (by omega) (by push_cast; omega)
        refine ⟨r, by push_cast at hr; exact hr, fun e => ?_⟩
        obtain ⟨q1, q2, q3⟩ := hf e
        refine ⟨by omega, q2, ?_⟩
        have hlt : k < l.length := by omega
        rw [List.drop_eq_getElem_cons hlt]
        intro m hmem
        rcases List.mem_cons.1 hmem with rfl | hmem
        · rw [← rd_get hlt]
          exact hm.2.2 (by omega)
        · exact q3 m hmem
      · rw [if_neg c2]
        by_cases c3 : n > 1000
        · rw [if_pos c3]
          exact ⟨true, rfl, fun e => by simp at e⟩
        · rw [if_neg c3]
          refine ⟨_, rfl, fun e => ?_⟩
          have : ¬ ((l.length : Int) > 1000) := of_decide_eq_false e
          omega
    · rw [if_neg c1]
      by_cases c3 : n > 1000
      · rw [if_pos c3]
        exact ⟨true, rfl, fun e => by simp at e⟩
      · rw [if_neg c3]
        refine ⟨_, rfl, fun e => ?_⟩
        have : ¬ ((l.length : Int) > 1000) := of_decide_eq_false e
        refine ⟨by omega, by omega, ?_⟩
        have : k = l.length := by omega
        subst this
        simp
theorem heavy_f (l : List S29) : ∃ r, falseworklaw9_heavy.f (l.length + 2) l = some r ∧ (r = false → Light l) := by
  obtain ⟨r, h1, h2⟩ := heavy_l l (l.length + 1) 0 0 (by omega) (by omega) (by omega) (by omega) (by omega)
  refine ⟨r, h1, fun e => ?_⟩
  obtain ⟨_, q2, q3⟩ := h2 e
  exact ⟨q2, by simpa using q3⟩
/-! ### copied, Add -/
theorem copied_l (l : List S29) (hl : l.length ≤ 1000000) (hs : ∀ m ∈ l, m.f7.length ≤ 1000000) : ∀ (j k : Nat) (out : List S29), l.length + 1 - k = j → k ≤ l.length → out = l.take k → post_copied.l0 (j + 1) out l (l.length : Int) k = some l
  | 0, k, out, h1, h2, h3 => by omega
  | j + 1, k, out, h1, h2, h3 => by
    unfold post_copied.l0
    by_cases c1 : (k : Int) < (l.length : Int)
    · have hlt : k < l.length := by omega
      rw [if_pos c1, if_pos (by omega), if_pos c1]
      have hm := hs _ (rd_mem hlt)
      unfold post_own.f
      simp only [Option.bind_some, List.nil_append, List.length_nil, Nat.zero_add]
      rw [if_pos (by omega)]
      simp only [Option.bind_some]
      have ho : out.length = k := by rw [h3, List.length_take]; omega
      rw [if_pos (by omega), wrap64_id (by omega) (by omega)]
      have := copied_l l hl hs j (k + 1) (out ++ [rd_T29 l k]) (by omega) (by omega) (by rw [h3, rd_get hlt, List.take_add_one, List.getElem?_eq_getElem hlt]; rfl)
      push_cast at this
      exact this
    · rw [if_neg c1, h3, List.take_of_length_le (by omega)]
theorem copied_f (l : List S29) (hl : l.length ≤ 1000000) (hs : ∀ m ∈ l, m.f7.length ≤ 1000000) (K : Nat) (hK : l.length + 2 ≤ K) : post_copied.f K l = some l := by
  have h0 : post_copied.f (l.length + 2) l = some l := copied_l l hl hs (l.length + 1) 0 [] (by omega) (by omega) (by simp)
  obtain ⟨d, rfl⟩ : ∃ d, K = l.length + 2 + d := ⟨K - (l.length + 2), by omega⟩
  clear hK
  induction d with
  | zero => exact h0
  | succ d ih => exact post_copied.mono l _ _ ih
def room (l more : List S29) : Nat := min more.length (400 - l.length)
def added (l more : List S29) : List S29 := l ++ more.take (room l more)
theorem Add_f (l more : List S29) (h1 : Light l) (h2 : Light more) : post_Add.f 2000 l more = some (added l more) := by
  unfold post_Add.f
  obtain ⟨a1, a2⟩ := h1
  obtain ⟨b1, b2⟩ := h2
  rw [copied_f l (by omega) (fun m hm => by have := a2 m hm; omega) 2000 (by omega)]
  have hr : mn (more.length : Int) (mx 0 (wrap64 (400 - (l.length : Int)))) = (room l more : Nat) := by
    rw [wrap64_id (by omega) (by omega)]
    unfold mn mx room
    split <;> split <;> omega
  simp only [Option.bind_some]
  rw [hr, if_pos (by omega), if_pos (by unfold room; omega), Int.toNat_natCast, copied_f _ (by rw [List.length_take]; omega) (fun m hm => by have := b2 m (List.mem_of_mem_take hm); omega) 2000 (by rw [List.length_take]; omega)]
  simp only [Option.bind_some]
  rw [if_pos (by rw [List.length_take]; omega)]
  rfl
theorem Add7_l (l more : List S29) (hl : l.length ≤ 1000) (hm : more.length ≤ 1000) : ∀ (j k : Nat), more.length + 1 - k = j → k ≤ room l more → falseworkref7_Add.l0 (j + 1) more (l ++ more.take k) k = some (added l more)
  | 0, k, h1, h2 => by unfold room at h2; omega
  | j + 1, k, h1, h2 => by
    have hr : room l more ≤ more.length := by unfold room; omega
    have hlen : (l ++ more.take k).length = l.length + k := by rw [List.length_append, List.length_take]; omega
    unfold falseworkref7_Add.l0
    by_cases c1 : (k : Int) < (more.length : Int)
    · have hlt : k < more.length := by omega
      rw [if_pos c1, hlen]
      by_cases c2 : ((l.length + k : Nat) : Int) < 400
      · rw [if_pos c2, if_pos (by omega), if_pos (by omega), wrap64_id (by omega) (by omega)]
        have := Add7_l l more hl hm j (k + 1) (by omega) (by unfold room; omega)
        rw [List.take_add_one, List.getElem?_eq_getElem hlt, ← List.append_assoc, ← rd_get hlt] at this
        push_cast at this
        exact this
      · rw [if_neg c2]
        have : k = room l more := by unfold room at h2 ⊢; omega
        rw [this]
        rfl
    · rw [if_neg c1]
      have : k = room l more := by unfold room at h2 ⊢; omega
      rw [this]
      rfl
theorem Add7_f (l more : List S29) (h1 : Light l) (h2 : Light more) : falseworkref7_Add.f (more.length + 2) l more = some (added l more) := by
  unfold falseworkref7_Add.f
  obtain ⟨a1, a2⟩ := h1
  obtain ⟨b1, b2⟩ := h2
  simp only [Option.bind_some, List.nil_append, List.length_nil, Nat.zero_add]
  rw [if_pos (by omega)]
  have := Add7_l l more a1 b1 (more.length + 1) 0 (by omega) (by omega)
  simpa using this
end Go.Proofs.Ytlmbdcgciieikaa.Pu
