/- Texts laid together: Jk, Gz. No condition. -/
import Derived.Test.YtggbjokhniigkaaGreatY4z9
namespace Go.Proofs.YtggbjokhniigkaaGreat.Jk
open Go.Proofs.YtggbjokhniigkaaGreat.Ty Go.RowKit Go.Proofs.YtggbjokhniigkaaGreatW.PrintWords Go.Proofs.YtggbjokhniigkaaGreatW.PrintLast Go.Proofs.YtggbjokhniigkaaGreatW.PrintMore Go.Proofs.YtggbjokhniigkaaGreat.Mx Go.Proofs.YtggbjokhniigkaaGreat.Kx
set_option linter.unusedVariables false
theorem pair_at {l : List Value} {k : Nat} {x y : Value} (h0 : l[k]? = some x) (h1 : l[k + 1]? = some y) : (l.drop k).take 2 = [x, y] := by
  obtain ⟨g0, e0⟩ := List.getElem?_eq_some_iff.1 h0
  obtain ⟨g1, e1⟩ := List.getElem?_eq_some_iff.1 h1
  rw [List.drop_eq_getElem_cons g0, List.drop_eq_getElem_cons g1, e0, e1]
  rfl
theorem pair_of {l : List Value} {k : Nat} {x y : Value} (h : (l.drop k).take 2 = [x, y]) : l[k]? = some x ∧ l[k + 1]? = some y := by
  have h0 : ((l.drop k).take 2)[0]? = some x := by rw [h]; rfl
  have h1 : ((l.drop k).take 2)[1]? = some y := by rw [h]; rfl
  rw [List.getElem?_take_of_lt (by decide), List.getElem?_drop] at h0 h1
  exact ⟨h0, h1⟩
/-- A row read anew. -/
theorem reps_choose {α : Type} {R : α → List Value → Prop} {Q : Nat → α → Prop} {sz n : Nat} {cs : List Value} (hl : cs.length = n * sz) (h : ∀ j, j < n → ∃ p, R p ((cs.drop (j * sz)).take sz) ∧ Q j p) :
    ∃ ps : List α, ps.length = n ∧ Reps R sz ps cs ∧ ∀ j p, ps[j]? = some p → Q j p := by
  refine ⟨List.ofFn (fun j : Fin n => Classical.choose (h j.1 j.2)), by simp, ⟨by simp [hl], fun j p hj => ?_⟩, fun j p hj => ?_⟩
  · obtain ⟨hlt, he⟩ := List.getElem?_eq_some_iff.1 hj
    have hlt' : j < n := by simpa using hlt
    rw [List.getElem_ofFn] at he
    subst he
    exact (Classical.choose_spec (h j hlt')).1
  · obtain ⟨hlt, he⟩ := List.getElem?_eq_some_iff.1 hj
    have hlt' : j < n := by simpa using hlt
    rw [List.getElem_ofFn] at he
    subst he
    exact (Classical.choose_spec (h j hlt')).2
/-- A number laid over a number leaves a row of entries one. -/
theorem entry_row {w : World} {base : Nat} {ok : Nat → Prop} {v : Value} {xs : List Entry} {g q : Nat} {a b : Int} (h : kE.R 68 w base ok v xs) (hc : w.cell? ⟨g, q, none⟩ = some (.int .i64 a)) :
    ∃ xs' : List Entry, xs'.length = xs.length ∧ kE.R 68 (w.setCell ⟨g, q, none⟩ (.int .i64 b)) base ok v xs' := by
  obtain ⟨h0, inner, ho, hr⟩ := h
  by_cases hg : v.ownBlock = some g
  case neg =>
    refine ⟨xs, rfl, h0, inner, own_move ho (fun k hk => ?_), hr.imp_ (fun p c hp => ?_)⟩
    · exact Below.heap_setCell w ⟨g, q, none⟩ _ k (fun e => hg (by rw [hk, e]))
    · rw [kE_openM hp]
      exact kE_mkM _ _ _ _
  obtain ⟨hlen, ho⟩ := ho
  rcases ho with ⟨rfl, _⟩ | ⟨g', cap, cur, rfl, hbg, hh, hn, hcap, hsz, hin⟩
  · simp [Value.ownBlock] at hg
  obtain rfl : g' = g := by simpa [Value.ownBlock] using hg
  have hcur : cur.toList[q]? = some (.int .i64 a) := by
    rw [blk_cell hh] at hc
    simpa using hc
  have hsz2 : kE.sz = 2 := rfl
  rw [hsz2] at hlen hsz hin hr
  have hlen2 : ((cur.setIfInBounds q (Value.int .i64 b)).toList.take (xs.length * 2)).length = xs.length * 2 := by
    rw [List.length_take]
    simp
    omega
  obtain ⟨ps, hp1, hp2, _⟩ := reps_choose (R := kE.M (w.setCell ⟨g', q, none⟩ (.int .i64 b)) base (fun k => ok k ∧ some k ≠ (Value.slice (some ⟨g', 0, none⟩) xs.length cap).ownBlock)) (Q := fun _ _ => True) (sz := 2) (n := xs.length) hlen2 (fun j hj => by
    have hx : xs[j]? = some xs[j] := List.getElem?_eq_getElem hj
    have hm := kE_openM (hr.2 j _ hx)
    obtain ⟨e0, e1⟩ := pair_of hm
    have t0 : cur.toList[j * 2]? = some (Value.int .i64 xs[j].f0) := by
      rw [← hin, List.getElem?_take_of_lt (by omega)] at e0
      exact e0
    have t1 : cur.toList[j * 2 + 1]? = some (Value.string xs[j].f1) := by
      rw [← hin, List.getElem?_take_of_lt (by omega)] at e1
      exact e1
    have hq1 : q ≠ j * 2 + 1 := by
      rintro rfl
      rw [t1] at hcur
      cases hcur
    have u1 : ((cur.setIfInBounds q (Value.int .i64 b)).toList.take (xs.length * 2))[j * 2 + 1]? = some (Value.string xs[j].f1) := by
      rw [List.getElem?_take_of_lt (by omega), Array.toList_setIfInBounds, List.getElem?_set_ne hq1]
      exact t1
    by_cases hq0 : q = j * 2
    · refine ⟨⟨b, xs[j].f1⟩, ?_, trivial⟩
      rw [pair_at (x := .int .i64 b) (y := .string xs[j].f1) ?_ u1]
      · exact kE_mkM _ _ _ ⟨b, xs[j].f1⟩
      · rw [List.getElem?_take_of_lt (by omega), Array.toList_setIfInBounds, hq0, List.getElem?_set_self]
        exact (List.getElem?_eq_some_iff.1 t0).1
    · refine ⟨xs[j], ?_, trivial⟩
      rw [pair_at (x := .int .i64 xs[j].f0) (y := .string xs[j].f1) ?_ u1]
      · exact kE_mkM _ _ _ _
      · rw [List.getElem?_take_of_lt (by omega), Array.toList_setIfInBounds, List.getElem?_set_ne hq0]
        exact t0)
  refine ⟨ps, hp1, ?_⟩
  rw [← hp1] at hp2
  refine ⟨h0, _, ⟨by rw [hsz2]; exact hlen2.trans (by rw [hp1]), .inr ⟨g', cap, cur.setIfInBounds q (.int .i64 b), by rw [hp1], hbg, blk_set hh q _, by omega, hcap, by rw [hsz2]; simpa using hsz, by rw [hp1]; rfl⟩⟩, ?_⟩
  rw [hp1] at hp2
  exact hp2
/-- The same within a list of messages. -/
theorem msg_row {w : World} {base : Nat} {ok : Nat → Prop} {v : Value} {ms : List Msg} {g q : Nat} {a b : Int} {cs : Array Value} (h : kM.R 27 w base ok v ms) (hb : w.heap[g]? = some (.cells cs 68 (0, 0))) (hc : w.cell? ⟨g, q, none⟩ = some (.int .i64 a)) :
    ∃ ms' : List Msg, ms'.map (fun m => m.f7.length) = ms.map (fun m => m.f7.length) ∧ kM.R 27 (w.setCell ⟨g, q, none⟩ (.int .i64 b)) base ok v ms' := by
  have hne := Kd.R_ne h hb (by decide)
  obtain ⟨h0, inner, ho, hr⟩ := h
  have hsz : kM.sz = 8 := rfl
  obtain ⟨ps, hp1, hp2, hp3⟩ := reps_choose (R := kM.M (w.setCell ⟨g, q, none⟩ (.int .i64 b)) base (fun k => ok k ∧ some k ≠ v.ownBlock)) (Q := fun j p => ∀ m, ms[j]? = some m → p.f7.length = m.f7.length) (sz := kM.sz) (n := ms.length) hr.1 (fun j hj => by
    have hx : ms[j]? = some ms[j] := List.getElem?_eq_getElem hj
    obtain ⟨v7, e, hR⟩ := kM_openM (hr.2 j _ hx)
    obtain ⟨xs', hl, hR'⟩ := entry_row (b := b) hR hc
    refine ⟨{ ms[j] with f7 := xs' }, ?_, fun m hm => ?_⟩
    · rw [e]
      exact kM_mkM _ _ _ { ms[j] with f7 := xs' } hR'
    · rw [hx] at hm
      cases hm
      exact hl)
  refine ⟨ps, ?_, h0, inner, ?_, hp2⟩
  · apply List.ext_getElem?
    intro j
    rw [List.getElem?_map, List.getElem?_map]
    rcases Nat.lt_or_ge j ps.length with hj | hj
    · rw [List.getElem?_eq_getElem hj, List.getElem?_eq_getElem (hp1 ▸ hj)]
      simp only [Option.map_some, Option.some.injEq]
      exact hp3 j _ (List.getElem?_eq_getElem hj) _ (List.getElem?_eq_getElem (hp1 ▸ hj))
    · rw [List.getElem?_eq_none hj, List.getElem?_eq_none (by omega)]
  · rw [hp1]
    exact own_move ho (fun k hk => Below.heap_setCell w ⟨g, q, none⟩ _ k (fun e => hne (by rw [hk, e])))
/-- A row of n entries. -/
def junkE (v : Value) (n : Nat) : Res where
  holds w fp := ∃ xs : List Entry, xs.length = n ∧ kE.R 68 w 0 fp v xs
  move hm := fun ⟨xs, e, h⟩ => ⟨xs, e, Kd.R_move h hm⟩
  mono hm := fun ⟨xs, e, h⟩ => ⟨xs, e, Kd.R_mono h hm⟩
/-- A row of messages with so many entries each. -/
def junk (v : Value) (ls : List Nat) : Res where
  holds w fp := ∃ ms : List Msg, ms.map (fun m => m.f7.length) = ls ∧ kM.R 27 w 0 fp v ms
  move hm := fun ⟨xs, e, h⟩ => ⟨xs, e, Kd.R_move h hm⟩
  mono hm := fun ⟨xs, e, h⟩ => ⟨xs, e, Kd.R_mono h hm⟩
theorem Mem.to_junkE {w0 w : World} {rs : List Res} (h : Mem w0 w rs) (i : Nat) {v : Value} {xs : List Entry} (hi : rs[i]? = some (row kE 68 v xs)) : Mem w0 w (rs.set i (junkE v xs.length)) := h.imp hi _ (fun f hh => ⟨xs, rfl, hh⟩)
theorem Mem.to_junk {w0 w : World} {rs : List Res} (h : Mem w0 w rs) (i : Nat) {v : Value} {ms : List Msg} (hi : rs[i]? = some (row kM 27 v ms)) : Mem w0 w (rs.set i (junk v (ms.map (fun m => m.f7.length)))) := h.imp hi _ (fun f hh => ⟨ms, rfl, hh⟩)
theorem set_self_ {α : Type} {l : List α} {i : Nat} {x : α} (h : l[i]? = some x) : l.set i x = l := by
  obtain ⟨h1, h2⟩ := List.getElem?_eq_some_iff.1 h
  rw [← h2, List.set_getElem_self]
/-- A time in a row of entries: where it lies; a store leaves the row. -/
theorem Mem.junkE_at {w0 w : World} {rs : List Res} (h : Mem w0 w rs) (i : Nat) {v : Value} {n : Nat} (hi : rs[i]? = some (junkE v n)) (k : Nat) (hk : k < n) :
    ∃ g cap a, v = .slice (some ⟨g, 0, none⟩) n cap ∧ g < w.heap.size ∧ w.cell? ⟨g, k * 2, none⟩ = some (.int .i64 a) ∧ w.frozen? ⟨g, k * 2, none⟩ = false ∧ ∀ b : Int, Mem w0 (w.setCell ⟨g, k * 2, none⟩ (.int .i64 b)) rs := by
  obtain ⟨f, ⟨xs, rfl, h1⟩, h2, h3⟩ := h.take1 hi
  obtain ⟨g, cap, rfl, _, hlt, cells, hblk⟩ := Kd.R_form h1 (by omega)
  obtain ⟨_, _, hC⟩ := Kd.R_reads' h1
  obtain ⟨ad, e, hc, _⟩ := at_Entry hC (k : Int) (by omega) (by omega)
  cases e
  have hc' : w.cell? ⟨g, k * 2, none⟩ = some (.int .i64 (rd_Entry xs k).f0) := by
    rw [add_plain] at hc
    simpa using hc
  refine ⟨g, cap, _, rfl, hlt, hc', blk_frozen hblk _, fun b => ?_⟩
  obtain ⟨xs', hl, hR⟩ := entry_row (b := b) h1 hc'
  have := h3 (w.setCell ⟨g, k * 2, none⟩ (.int .i64 b)) (junkE (.slice (some ⟨g, 0, none⟩) xs.length cap) xs.length) rfl rfl rfl (by simp [World.setCell]) (fun j _ hf => Below.heap_setCell w _ _ j (fun e => hf (h1.1 j (by rw [e]; rfl)))) ⟨xs', hl, Kd.R_mono hR (fun _ hh => .inl hh)⟩
  rwa [set_self_ hi] at this
/-- The same within a list of messages. -/
theorem Mem.junk_at {w0 w : World} {rs : List Res} (h : Mem w0 w rs) (i : Nat) {v : Value} {ls : List Nat} (hi : rs[i]? = some (junk v ls)) (j : Nat) (hj : j < ls.length) :
    ∃ ad cap A7 c7, v = .slice (some ad) ls.length cap ∧ w.cell? ⟨(ad.add (j * 8)).block, (ad.add (j * 8)).off + 7, none⟩ = some (.slice A7 (ls.getD j 0) c7) ∧
      ∀ k, k < ls.getD j 0 → ∃ g a, A7 = some ⟨g, 0, none⟩ ∧ g < w.heap.size ∧ w.cell? ⟨g, k * 2, none⟩ = some (.int .i64 a) ∧ w.frozen? ⟨g, k * 2, none⟩ = false ∧ ∀ b : Int, Mem w0 (w.setCell ⟨g, k * 2, none⟩ (.int .i64 b)) rs := by
  obtain ⟨f, ⟨ms, rfl, h1⟩, h2, h3⟩ := h.take1 hi
  have hj' : j < ms.length := by simpa using hj
  have hd : (ms.map (fun m => m.f7.length)).getD j 0 = ms[j].f7.length := by
    rw [List.getD, List.getElem?_map, List.getElem?_eq_getElem hj']
    rfl
  rw [hd, List.length_map]
  obtain ⟨g0, cap, rfl, _, hlt, cells, hblk⟩ := Kd.R_form h1 (by omega)
  have h1' := h1
  obtain ⟨hb, inner, ho, hr⟩ := h1
  have hx : ms[j]? = some ms[j] := List.getElem?_eq_getElem hj'
  obtain ⟨v7, e, hR⟩ := kM_openM (hr.2 j _ hx)
  obtain ⟨A7, c7, rfl, hc7, hC7⟩ := Kd.R_reads hR
  obtain ⟨_, _, hC⟩ := Kd.R_reads' h1'
  have hcell : w.cell? ⟨((⟨g0, 0, none⟩ : Addr).add (j * 8)).block, ((⟨g0, 0, none⟩ : Addr).add (j * 8)).off + 7, none⟩ = some (.slice A7 ms[j].f7.length c7) := by
    obtain ⟨hlen, ho⟩ := ho
    rcases ho with ⟨he, _⟩ | ⟨g', cap', cur, he, hbg, hh, hn, hcap, hsz, hin⟩
    · cases he
    obtain rfl : g0 = g' := by injection he with he; injection he with he; injection he
    have h7 : ((inner.drop (j * 8)).take 8)[7]? = some (.slice A7 ms[j].f7.length c7) := by
      show ((inner.drop (j * kM.sz)).take kM.sz)[7]? = _
      rw [e]
      rfl
    rw [List.getElem?_take_of_lt (by decide), List.getElem?_drop, ← hin, List.getElem?_take_of_lt (by show j * 8 + 7 < ms.length * 8; omega)] at h7
    rw [add_plain, blk_cell hh]
    simpa using h7
  refine ⟨⟨g0, 0, none⟩, cap, A7, c7, rfl, hcell, fun k hk => ?_⟩
  obtain ⟨g, cap', he, _, hlt7, cells7, hblk7⟩ := Kd.R_form hR (by omega)
  injection he with he _ _
  subst he
  obtain ⟨ad, e', hc, _⟩ := at_Entry hC7 (k : Int) (by omega) (by omega)
  cases e'
  have hc' : w.cell? ⟨g, k * 2, none⟩ = some (.int .i64 (rd_Entry ms[j].f7 k).f0) := by
    rw [add_plain] at hc
    simpa using hc
  refine ⟨g, _, rfl, hlt7, hc', blk_frozen hblk7 _, fun b => ?_⟩
  obtain ⟨ms', hl, hR'⟩ := msg_row (b := b) h1' hblk7 hc'
  have hfg : f g := (hR.1 g rfl).1
  have := h3 (w.setCell ⟨g, k * 2, none⟩ (.int .i64 b)) (junk (.slice (some ⟨g0, 0, none⟩) ms.length cap) (ms.map (fun m => m.f7.length))) rfl rfl rfl (by simp [World.setCell]) (fun q _ hf => Below.heap_setCell w _ _ q (fun e => hf (e ▸ hfg))) ⟨ms', hl, Kd.R_mono hR' (fun _ hh => .inl hh)⟩
  rwa [set_self_ hi] at this
end Go.Proofs.YtggbjokhniigkaaGreat.Jk
namespace Go.Proofs.YtggbjokhniigkaaGreat.Gz
open Go.Proofs.YtggbjokhniigkaaGreat.Ty Go.RowKit Go.Proofs.YtggbjokhniigkaaGreatW.PrintWords Go.Proofs.YtggbjokhniigkaaGreatW.PrintLast Go.Proofs.YtggbjokhniigkaaGreatW.PrintMore Go.Proofs.YtggbjokhniigkaaGreat.Mx Go.Proofs.YtggbjokhniigkaaGreat.Kx Go.Proofs.YtggbjokhniigkaaGreat.Wa Go.Proofs.YtggbjokhniigkaaGreat.Wb Go.Proofs.YtggbjokhniigkaaGreat.Wc Go.Proofs.YtggbjokhniigkaaGreat.Wd Go.Proofs.YtggbjokhniigkaaGreat.Wj Go.Proofs.YtggbjokhniigkaaGreat.Va Go.Proofs.YtggbjokhniigkaaGreat.Vb Go.Proofs.YtggbjokhniigkaaGreat.Vc Go.Proofs.YtggbjokhniigkaaGreat.PReplicaTakes
set_option linter.unusedVariables false
set_option linter.unusedSimpArgs false
theorem entries_any (l : List Entry) : ∃ b : Bool, (b = false → l.length ≤ 1200) ∧ ∀ (A : Option Addr) (c : Nat) (w : World), Kd.C kE w A l.length l → l.length ≤ c → Calls Tryz.prog 31 #[.slice A l.length c] w fun e w' => e = .returned (.bool b) ∧ Below w.heap.size w w' := by
  obtain ⟨b, h1, h2⟩ := entries_f (l.map toS)
  refine ⟨b, fun h => by simpa using h2 h, fun A c w hl hc => ?_⟩
  have := falseworklaw11_entries.calls (l.length + 1) A c (l.map toS) b w (by rw [List.length_map]; exact C_toS hl) (by rw [List.length_map]; exact hc) (h1 _ (by simp))
  rw [List.length_map] at this
  exact this
set_option maxRecDepth 100000 in
set_option maxHeartbeats 4000000 in
theorem great_1 (r : Rep) (A5 A7 A8 A9 A10 : Option Addr) (c5 c7 c8 c9 c10 : Nat) (w : World) (h : RdRep w r A5 A7 A8 A9 A10) (hc : Fit r c5 c7 c8 c9 c10) (hE5 : ∀ (A : Option Addr) (c : Nat) (w : World), Kd.C kE w A r.f5.length r.f5 → r.f5.length ≤ c → Calls Tryz.prog 31 #[.slice A r.f5.length c] w fun e w' => e = .returned (.bool true) ∧ Below w.heap.size w w') :
    Calls Tryz.prog 30 #[.agg #[.int .i64 r.f0, .int .i64 r.f1, .int .i64 r.f2, .int .i64 r.f3, .int .i64 r.f4, .slice A5 r.f5.length c5, .int .i64 r.f6, .slice A7 r.f7.length c7, .slice A8 r.f8.length c8, .slice A9 r.f9.length c9, .slice A10 r.f10.length c10, .int .i64 r.f11, .int .i64 r.f12]] w fun e w' => e = .returned (.bool true) ∧ Below w.heap.size w w' := by
  have H := Aside0.mk h
  have HC := Aside0.mk hc
  have HE5 := Aside0.mk hE5
  clear hE5
  have M1 := Aside0.mk ((Mem.nil w).allocAt #[.int .i64 r.f0, .int .i64 r.f1, .int .i64 r.f2, .int .i64 r.f3, .int .i64 r.f4, .slice A5 r.f5.length c5, .int .i64 r.f6, .slice A7 r.f7.length c7, .slice A8 r.f8.length c8, .slice A9 r.f9.length c9, .slice A10 r.f10.length c10, .int .i64 r.f11, .int .i64 r.f12] 25 w.heap.size rfl)
  clear h hc
  go_enter Tryz.func30, Tryz.ntmps30
  go_wp2_with fail
  refine (HE5.out A5 c5 _ (Kd.C_below H.out.h5 M1.out.below) HC.out.h5).mono ?_
  rintro e w1 ⟨rfl, hb⟩
  have M2 := Aside0.mk (M1.out.grow hb)
  clear hb M1
  have cR := blk_cell (M2.out.blk_at 0 rfl)
  go_wp2
  all_goals
    go_ret
    exact ⟨rfl, M2.out.below⟩
set_option maxRecDepth 100000 in
set_option maxHeartbeats 4000000 in
theorem great_2 (r : Rep) (A5 A7 A8 A9 A10 : Option Addr) (c5 c7 c8 c9 c10 : Nat) (w : World) (h : RdRep w r A5 A7 A8 A9 A10) (hc : Fit r c5 c7 c8 c9 c10) (hE5 : ∀ (A : Option Addr) (c : Nat) (w : World), Kd.C kE w A r.f5.length r.f5 → r.f5.length ≤ c → Calls Tryz.prog 31 #[.slice A r.f5.length c] w fun e w' => e = .returned (.bool false) ∧ Below w.heap.size w w') (hE10 : ∀ (A : Option Addr) (c : Nat) (w : World), Kd.C kE w A r.f10.length r.f10 → r.f10.length ≤ c → Calls Tryz.prog 31 #[.slice A r.f10.length c] w fun e w' => e = .returned (.bool true) ∧ Below w.heap.size w w') :
    Calls Tryz.prog 30 #[.agg #[.int .i64 r.f0, .int .i64 r.f1, .int .i64 r.f2, .int .i64 r.f3, .int .i64 r.f4, .slice A5 r.f5.length c5, .int .i64 r.f6, .slice A7 r.f7.length c7, .slice A8 r.f8.length c8, .slice A9 r.f9.length c9, .slice A10 r.f10.length c10, .int .i64 r.f11, .int .i64 r.f12]] w fun e w' => e = .returned (.bool true) ∧ Below w.heap.size w w' := by
  have H := Aside0.mk h
  have HC := Aside0.mk hc
  have HE5 := Aside0.mk hE5
  clear hE5
  have HE10 := Aside0.mk hE10
  clear hE10
  have M1 := Aside0.mk ((Mem.nil w).allocAt #[.int .i64 r.f0, .int .i64 r.f1, .int .i64 r.f2, .int .i64 r.f3, .int .i64 r.f4, .slice A5 r.f5.length c5, .int .i64 r.f6, .slice A7 r.f7.length c7, .slice A8 r.f8.length c8, .slice A9 r.f9.length c9, .slice A10 r.f10.length c10, .int .i64 r.f11, .int .i64 r.f12] 25 w.heap.size rfl)
  clear h hc
  go_enter Tryz.func30, Tryz.ntmps30
  go_wp2_with fail
  refine (HE5.out A5 c5 _ (Kd.C_below H.out.h5 M1.out.below) HC.out.h5).mono ?_
  rintro e w1 ⟨rfl, hb⟩
  have M2 := Aside0.mk (M1.out.grow hb)
  clear hb M1
  have cR := blk_cell (M2.out.blk_at 0 rfl)
  go_wp2_with fail
  refine (HE10.out A10 c10 _ (Kd.C_below H.out.h10 M2.out.below) HC.out.h10).mono ?_
  rintro e w2 ⟨rfl, hb⟩
  have M3 := Aside0.mk (M2.out.grow hb)
  clear hb M2 cR
  have cR := blk_cell (M3.out.blk_at 0 rfl)
  go_wp2
  all_goals
    go_ret
    exact ⟨rfl, M3.out.below⟩
set_option maxRecDepth 100000 in
set_option maxHeartbeats 4000000 in
theorem great_3 (r : Rep) (A5 A7 A8 A9 A10 : Option Addr) (c5 c7 c8 c9 c10 : Nat) (w : World) (h : RdRep w r A5 A7 A8 A9 A10) (hc : Fit r c5 c7 c8 c9 c10) (hE5 : ∀ (A : Option Addr) (c : Nat) (w : World), Kd.C kE w A r.f5.length r.f5 → r.f5.length ≤ c → Calls Tryz.prog 31 #[.slice A r.f5.length c] w fun e w' => e = .returned (.bool false) ∧ Below w.heap.size w w') (hE10 : ∀ (A : Option Addr) (c : Nat) (w : World), Kd.C kE w A r.f10.length r.f10 → r.f10.length ≤ c → Calls Tryz.prog 31 #[.slice A r.f10.length c] w fun e w' => e = .returned (.bool false) ∧ Below w.heap.size w w') (g7 : 20 < r.f7.length) :
    Calls Tryz.prog 30 #[.agg #[.int .i64 r.f0, .int .i64 r.f1, .int .i64 r.f2, .int .i64 r.f3, .int .i64 r.f4, .slice A5 r.f5.length c5, .int .i64 r.f6, .slice A7 r.f7.length c7, .slice A8 r.f8.length c8, .slice A9 r.f9.length c9, .slice A10 r.f10.length c10, .int .i64 r.f11, .int .i64 r.f12]] w fun e w' => e = .returned (.bool true) ∧ Below w.heap.size w w' := by
  have H := Aside0.mk h
  have HC := Aside0.mk hc
  have HE5 := Aside0.mk hE5
  clear hE5
  have HE10 := Aside0.mk hE10
  clear hE10
  have e7 : decide (20 < (r.f7.length : Int)) = true := by simp; omega
  clear g7
  have M1 := Aside0.mk ((Mem.nil w).allocAt #[.int .i64 r.f0, .int .i64 r.f1, .int .i64 r.f2, .int .i64 r.f3, .int .i64 r.f4, .slice A5 r.f5.length c5, .int .i64 r.f6, .slice A7 r.f7.length c7, .slice A8 r.f8.length c8, .slice A9 r.f9.length c9, .slice A10 r.f10.length c10, .int .i64 r.f11, .int .i64 r.f12] 25 w.heap.size rfl)
  clear h hc
  go_enter Tryz.func30, Tryz.ntmps30
  go_wp2_with fail
  refine (HE5.out A5 c5 _ (Kd.C_below H.out.h5 M1.out.below) HC.out.h5).mono ?_
  rintro e w1 ⟨rfl, hb⟩
  have M2 := Aside0.mk (M1.out.grow hb)
  clear hb M1
  have cR := blk_cell (M2.out.blk_at 0 rfl)
  go_wp2_with fail
  refine (HE10.out A10 c10 _ (Kd.C_below H.out.h10 M2.out.below) HC.out.h10).mono ?_
  rintro e w2 ⟨rfl, hb⟩
  have M3 := Aside0.mk (M2.out.grow hb)
  clear hb M2 cR
  have cR := blk_cell (M3.out.blk_at 0 rfl)
  go_wp2
  all_goals
    go_ret
    exact ⟨rfl, M3.out.below⟩
set_option maxRecDepth 100000 in
set_option maxHeartbeats 4000000 in
theorem great_4 (r : Rep) (A5 A7 A8 A9 A10 : Option Addr) (c5 c7 c8 c9 c10 : Nat) (w : World) (h : RdRep w r A5 A7 A8 A9 A10) (hc : Fit r c5 c7 c8 c9 c10) (hE5 : ∀ (A : Option Addr) (c : Nat) (w : World), Kd.C kE w A r.f5.length r.f5 → r.f5.length ≤ c → Calls Tryz.prog 31 #[.slice A r.f5.length c] w fun e w' => e = .returned (.bool false) ∧ Below w.heap.size w w') (hE10 : ∀ (A : Option Addr) (c : Nat) (w : World), Kd.C kE w A r.f10.length r.f10 → r.f10.length ≤ c → Calls Tryz.prog 31 #[.slice A r.f10.length c] w fun e w' => e = .returned (.bool false) ∧ Below w.heap.size w w') (g7 : ¬ 20 < r.f7.length) (g8 : 20 < r.f8.length) :
    Calls Tryz.prog 30 #[.agg #[.int .i64 r.f0, .int .i64 r.f1, .int .i64 r.f2, .int .i64 r.f3, .int .i64 r.f4, .slice A5 r.f5.length c5, .int .i64 r.f6, .slice A7 r.f7.length c7, .slice A8 r.f8.length c8, .slice A9 r.f9.length c9, .slice A10 r.f10.length c10, .int .i64 r.f11, .int .i64 r.f12]] w fun e w' => e = .returned (.bool true) ∧ Below w.heap.size w w' := by
  have H := Aside0.mk h
  have HC := Aside0.mk hc
  have HE5 := Aside0.mk hE5
  clear hE5
  have HE10 := Aside0.mk hE10
  clear hE10
  have e7 : decide (20 < (r.f7.length : Int)) = false := by simp; omega
  clear g7
  have e8 : decide (20 < (r.f8.length : Int)) = true := by simp; omega
  clear g8
  have M1 := Aside0.mk ((Mem.nil w).allocAt #[.int .i64 r.f0, .int .i64 r.f1, .int .i64 r.f2, .int .i64 r.f3, .int .i64 r.f4, .slice A5 r.f5.length c5, .int .i64 r.f6, .slice A7 r.f7.length c7, .slice A8 r.f8.length c8, .slice A9 r.f9.length c9, .slice A10 r.f10.length c10, .int .i64 r.f11, .int .i64 r.f12] 25 w.heap.size rfl)
  clear h hc
  go_enter Tryz.func30, Tryz.ntmps30
  go_wp2_with fail
  refine (HE5.out A5 c5 _ (Kd.C_below H.out.h5 M1.out.below) HC.out.h5).mono ?_
  rintro e w1 ⟨rfl, hb⟩
  have M2 := Aside0.mk (M1.out.grow hb)
  clear hb M1
  have cR := blk_cell (M2.out.blk_at 0 rfl)
  go_wp2_with fail
  refine (HE10.out A10 c10 _ (Kd.C_below H.out.h10 M2.out.below) HC.out.h10).mono ?_
  rintro e w2 ⟨rfl, hb⟩
  have M3 := Aside0.mk (M2.out.grow hb)
  clear hb M2 cR
  have cR := blk_cell (M3.out.blk_at 0 rfl)
  go_wp2
  all_goals
    go_ret
    exact ⟨rfl, M3.out.below⟩
set_option maxRecDepth 100000 in
set_option maxHeartbeats 4000000 in
theorem great_5 (r : Rep) (A5 A7 A8 A9 A10 : Option Addr) (c5 c7 c8 c9 c10 : Nat) (w : World) (h : RdRep w r A5 A7 A8 A9 A10) (hc : Fit r c5 c7 c8 c9 c10) (hE5 : ∀ (A : Option Addr) (c : Nat) (w : World), Kd.C kE w A r.f5.length r.f5 → r.f5.length ≤ c → Calls Tryz.prog 31 #[.slice A r.f5.length c] w fun e w' => e = .returned (.bool false) ∧ Below w.heap.size w w') (hE10 : ∀ (A : Option Addr) (c : Nat) (w : World), Kd.C kE w A r.f10.length r.f10 → r.f10.length ≤ c → Calls Tryz.prog 31 #[.slice A r.f10.length c] w fun e w' => e = .returned (.bool false) ∧ Below w.heap.size w w') (g7 : ¬ 20 < r.f7.length) (g8 : ¬ 20 < r.f8.length) (g9 : 20 < r.f9.length) :
    Calls Tryz.prog 30 #[.agg #[.int .i64 r.f0, .int .i64 r.f1, .int .i64 r.f2, .int .i64 r.f3, .int .i64 r.f4, .slice A5 r.f5.length c5, .int .i64 r.f6, .slice A7 r.f7.length c7, .slice A8 r.f8.length c8, .slice A9 r.f9.length c9, .slice A10 r.f10.length c10, .int .i64 r.f11, .int .i64 r.f12]] w fun e w' => e = .returned (.bool true) ∧ Below w.heap.size w w' := by
  have H := Aside0.mk h
  have HC := Aside0.mk hc
  have HE5 := Aside0.mk hE5
  clear hE5
  have HE10 := Aside0.mk hE10
  clear hE10
  have e7 : decide (20 < (r.f7.length : Int)) = false := by simp; omega
  clear g7
  have e8 : decide (20 < (r.f8.length : Int)) = false := by simp; omega
  clear g8
  have e9 : decide (20 < (r.f9.length : Int)) = true := by simp; omega
  clear g9
  have M1 := Aside0.mk ((Mem.nil w).allocAt #[.int .i64 r.f0, .int .i64 r.f1, .int .i64 r.f2, .int .i64 r.f3, .int .i64 r.f4, .slice A5 r.f5.length c5, .int .i64 r.f6, .slice A7 r.f7.length c7, .slice A8 r.f8.length c8, .slice A9 r.f9.length c9, .slice A10 r.f10.length c10, .int .i64 r.f11, .int .i64 r.f12] 25 w.heap.size rfl)
  clear h hc
  go_enter Tryz.func30, Tryz.ntmps30
  go_wp2_with fail
  refine (HE5.out A5 c5 _ (Kd.C_below H.out.h5 M1.out.below) HC.out.h5).mono ?_
  rintro e w1 ⟨rfl, hb⟩
  have M2 := Aside0.mk (M1.out.grow hb)
  clear hb M1
  have cR := blk_cell (M2.out.blk_at 0 rfl)
  go_wp2_with fail
  refine (HE10.out A10 c10 _ (Kd.C_below H.out.h10 M2.out.below) HC.out.h10).mono ?_
  rintro e w2 ⟨rfl, hb⟩
  have M3 := Aside0.mk (M2.out.grow hb)
  clear hb M2 cR
  have cR := blk_cell (M3.out.blk_at 0 rfl)
  go_wp2
  all_goals
    go_ret
    exact ⟨rfl, M3.out.below⟩
set_option maxRecDepth 100000 in
set_option maxHeartbeats 4000000 in
theorem great_6 (r : Rep) (A5 A7 A8 A9 A10 : Option Addr) (c5 c7 c8 c9 c10 : Nat) (w : World) (h : RdRep w r A5 A7 A8 A9 A10) (hc : Fit r c5 c7 c8 c9 c10) (hE5 : ∀ (A : Option Addr) (c : Nat) (w : World), Kd.C kE w A r.f5.length r.f5 → r.f5.length ≤ c → Calls Tryz.prog 31 #[.slice A r.f5.length c] w fun e w' => e = .returned (.bool false) ∧ Below w.heap.size w w') (hE10 : ∀ (A : Option Addr) (c : Nat) (w : World), Kd.C kE w A r.f10.length r.f10 → r.f10.length ≤ c → Calls Tryz.prog 31 #[.slice A r.f10.length c] w fun e w' => e = .returned (.bool false) ∧ Below w.heap.size w w') (g7 : ¬ 20 < r.f7.length) (g8 : ¬ 20 < r.f8.length) (g9 : ¬ 20 < r.f9.length) :
    Calls Tryz.prog 30 #[.agg #[.int .i64 r.f0, .int .i64 r.f1, .int .i64 r.f2, .int .i64 r.f3, .int .i64 r.f4, .slice A5 r.f5.length c5, .int .i64 r.f6, .slice A7 r.f7.length c7, .slice A8 r.f8.length c8, .slice A9 r.f9.length c9, .slice A10 r.f10.length c10, .int .i64 r.f11, .int .i64 r.f12]] w fun e w' => e = .returned (.bool false) ∧ Below w.heap.size w w' := by
  have H := Aside0.mk h
  have HC := Aside0.mk hc
  have HE5 := Aside0.mk hE5
  clear hE5
  have HE10 := Aside0.mk hE10
  clear hE10
  have e7 : decide (20 < (r.f7.length : Int)) = false := by simp; omega
  clear g7
  have e8 : decide (20 < (r.f8.length : Int)) = false := by simp; omega
  clear g8
  have e9 : decide (20 < (r.f9.length : Int)) = false := by simp; omega
  clear g9
  have M1 := Aside0.mk ((Mem.nil w).allocAt #[.int .i64 r.f0, .int .i64 r.f1, .int .i64 r.f2, .int .i64 r.f3, .int .i64 r.f4, .slice A5 r.f5.length c5, .int .i64 r.f6, .slice A7 r.f7.length c7, .slice A8 r.f8.length c8, .slice A9 r.f9.length c9, .slice A10 r.f10.length c10, .int .i64 r.f11, .int .i64 r.f12] 25 w.heap.size rfl)
  clear h hc
  go_enter Tryz.func30, Tryz.ntmps30
  go_wp2_with fail
  refine (HE5.out A5 c5 _ (Kd.C_below H.out.h5 M1.out.below) HC.out.h5).mono ?_
  rintro e w1 ⟨rfl, hb⟩
  have M2 := Aside0.mk (M1.out.grow hb)
  clear hb M1
  have cR := blk_cell (M2.out.blk_at 0 rfl)
  go_wp2_with fail
  refine (HE10.out A10 c10 _ (Kd.C_below H.out.h10 M2.out.below) HC.out.h10).mono ?_
  rintro e w2 ⟨rfl, hb⟩
  have M3 := Aside0.mk (M2.out.grow hb)
  clear hb M2 cR
  have cR := blk_cell (M3.out.blk_at 0 rfl)
  go_wp2
  all_goals
    go_ret
    exact ⟨rfl, M3.out.below⟩
/-- Whether there is more than is gone through: the same at each call. -/
theorem Great_any (r : Rep) : ∃ b : Bool, (b = false → r.f5.length ≤ 1200 ∧ r.f7.length ≤ 20 ∧ r.f8.length ≤ 20 ∧ r.f9.length ≤ 20 ∧ r.f10.length ≤ 1200) ∧ ∀ (A5 A7 A8 A9 A10 : Option Addr) (c5 c7 c8 c9 c10 : Nat) (w : World), RdRep w r A5 A7 A8 A9 A10 → Fit r c5 c7 c8 c9 c10 →
    Calls Tryz.prog 30 #[.agg #[.int .i64 r.f0, .int .i64 r.f1, .int .i64 r.f2, .int .i64 r.f3, .int .i64 r.f4, .slice A5 r.f5.length c5, .int .i64 r.f6, .slice A7 r.f7.length c7, .slice A8 r.f8.length c8, .slice A9 r.f9.length c9, .slice A10 r.f10.length c10, .int .i64 r.f11, .int .i64 r.f12]] w fun e w' => e = .returned (.bool b) ∧ Below w.heap.size w w' := by
  obtain ⟨b5, g5, hE5⟩ := entries_any r.f5
  obtain ⟨b10, g10, hE10⟩ := entries_any r.f10
  cases b5 with
  | true => exact ⟨true, (fun h => by cases h), fun A5 A7 A8 A9 A10 c5 c7 c8 c9 c10 w h hc => great_1 r A5 A7 A8 A9 A10 c5 c7 c8 c9 c10 w h hc hE5⟩
  | false =>
  cases b10 with
  | true => exact ⟨true, (fun h => by cases h), fun A5 A7 A8 A9 A10 c5 c7 c8 c9 c10 w h hc => great_2 r A5 A7 A8 A9 A10 c5 c7 c8 c9 c10 w h hc hE5 hE10⟩
  | false =>
  by_cases h7 : 20 < r.f7.length
  · exact ⟨true, (fun h => by cases h), fun A5 A7 A8 A9 A10 c5 c7 c8 c9 c10 w h hc => great_3 r A5 A7 A8 A9 A10 c5 c7 c8 c9 c10 w h hc hE5 hE10 h7⟩
  by_cases h8 : 20 < r.f8.length
  · exact ⟨true, (fun h => by cases h), fun A5 A7 A8 A9 A10 c5 c7 c8 c9 c10 w h hc => great_4 r A5 A7 A8 A9 A10 c5 c7 c8 c9 c10 w h hc hE5 hE10 h7 h8⟩
  by_cases h9 : 20 < r.f9.length
  · exact ⟨true, (fun h => by cases h), fun A5 A7 A8 A9 A10 c5 c7 c8 c9 c10 w h hc => great_5 r A5 A7 A8 A9 A10 c5 c7 c8 c9 c10 w h hc hE5 hE10 h7 h8 h9⟩
  exact ⟨false, fun _ => ⟨g5 rfl, by omega, by omega, by omega, g10 rfl⟩, fun A5 A7 A8 A9 A10 c5 c7 c8 c9 c10 w h hc => great_6 r A5 A7 A8 A9 A10 c5 c7 c8 c9 c10 w h hc hE5 hE10 h7 h8 h9⟩
end Go.Proofs.YtggbjokhniigkaaGreat.Gz
