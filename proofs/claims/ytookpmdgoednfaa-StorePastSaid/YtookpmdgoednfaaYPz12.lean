/- Texts laid together: Su, Sv. No condition. -/
import Derived.BigQuiet
import Derived.Deep.RegionHeld3
import Derived.Test.YtookpmdgoednfaaYPz11
set_option linter.unusedVariables false
set_option linter.unusedSimpArgs false
set_option maxRecDepth 100000
set_option maxHeartbeats 8000000
namespace Go.Proofs.Ytookpmdgoednfaa.Su
open Go.RowKit YtookpmdgoednfaaW.PrintWords YtookpmdgoednfaaW.PrintLast YtookpmdgoednfaaW.PrintMore Mx St Ks Sw
open Pa hiding SP
open Px (lt lt_irrefl lt_asymm lt_of_not lt_trans)
theorem clone_calls (A : Option Addr) (c : Nat) (l : List V) (w : World) (hl : Kd.C kV w A l.length l) (hn : l.length ≤ 1000000000) :
    Calls Try.prog 84 #[.slice A l.length c] w fun e w' => ∃ v : Value, e = .returned v ∧ Mem w w' [row kV 120 v l] := by
  have HL := Aside0.mk hl
  have HN := Aside0.mk hn
  have M0 := Aside0.mk (Mem.nil w)
  have hq := fun (w : World) (n c : Nat) => Lib.run_eql_slice_nil (P := Try.prog) w 121 120 A n c 0 0 Try.underlying121
  cases A with
  | none =>
    obtain rfl := C_none hl
    clear hl hn
    go_enter Try.func84, Try.ntmps84
    go_wp2
    go_ret
    exact ⟨_, rfl, Mem.row_nil M0.out _ _⟩
  | some ad =>
    clear hl hn
    go_enter Try.func84, Try.ntmps84
    go_wp2_with (((with_reducible refine gate_builtin (b := .append) (xs := #[.tmp 5, .tmp 6]) rfl ?_); at_builtin; refine Mem.app kV ((M0.out.alloc #[] 120).lit 0 kV [] rfl (Reps.none _ _) (by decide)) 0 _ [] l rfl (.tmp 5) (.tmp 6) 121 120 _ _ rfl Try.underlying121 infokV rfl (by decide) (by omega) (some ad) _ c rfl rfl rfl (Kd.C_alloc HL.out _) (fun x cs h => by obtain rfl := kV_open h; exact kV_mkM _ _ _ x) (by have := HN.out; simp; omega) ?_; intro v1 w1 hM1; have M1 := Aside0.mk hM1; clear hM1))
    go_ret
    exact ⟨_, rfl, M1.out⟩
/-- The keys' pages, read wherever they lie. -/
def pr (k : ByteArray) : SP := ⟨k, e0⟩
def KR (w0 : World) (X : List Res) (kv : Value) (ks : List ByteArray) : Prop :=
  ∃ (A : Option Addr) (c : Nat) (ps : List (List SP)), kv = .slice A ps.length c ∧ ps.length ≤ c ∧ Py.right ps = true ∧ ps.flatten = ks.map pr ∧ ∀ w'', Mem w0 w'' X → Kd.C (Kd.slice 41 kP) w'' A ps.length ps
theorem KR.behind {w0 : World} {X : List Res} {kv : Value} {ks : List ByteArray} (h : KR w0 X kv ks) (Y : Res) : KR w0 (Y :: X) kv ks := by
  obtain ⟨A, c, ps, h1, h2, h3, h4, h5⟩ := h
  exact ⟨A, c, ps, h1, h2, h3, h4, fun w'' hM => h5 w'' (Mem.sel (ps := [Y]) (F := X) [] 1 hM rfl rfl)⟩
theorem pages_few {ps : List (List SP)} (hr : Py.right ps = true) : ps.length ≤ ps.flatten.length := by
  have h := (Px.rt_of hr).len
  clear hr
  induction ps with
  | nil => simp
  | cons p ps ih =>
    have h1 := (h p (List.mem_cons_self ..)).1
    have h2 := ih (fun q hq => h q (List.mem_cons_of_mem _ hq))
    rw [List.flatten_cons, List.length_append, List.length_cons]
    omega
theorem ins_lt {x : SP} {l : List SP} {k : ByteArray} (h : lt (Py.kof x) k.toList = true) (o : Option ByteArray) : Lp.ins (x :: l) k o = x :: Lp.ins l k o := by
  have e1 : Lp.place (x :: l) k.toList = Lp.place l k.toList + 1 := by
    unfold Lp.place
    rw [List.takeWhile_cons, if_pos h, List.length_cons]
  have e2 : Lp.there (x :: l) k.toList = Lp.there l k.toList := by
    unfold Lp.there
    rw [e1, List.drop_succ_cons]
  have e3 : Lp.after (x :: l) k.toList = Lp.after l k.toList + 1 := by
    unfold Lp.after
    rw [e1, e2]
    split <;> rfl
  unfold Lp.ins
  rw [e1, e3, List.take_succ_cons, List.drop_succ_cons]
  simp
theorem ins_ge {x : SP} {l : List SP} {k : ByteArray} (h : lt (Py.kof x) k.toList = false) (o : Option ByteArray) : Lp.ins (x :: l) k o = (match o with | some v => [⟨k, v⟩] | none => []) ++ (if (Py.kof x == k.toList) = true then l else x :: l) := by
  have e1 : Lp.place (x :: l) k.toList = 0 := by
    unfold Lp.place
    rw [List.takeWhile_cons, if_neg (by rw [show lt (Lp.kof x) k.toList = false from h]; simp)]
    rfl
  have e2 : Lp.there (x :: l) k.toList = (Py.kof x == k.toList) := by
    unfold Lp.there
    rw [e1]
    rfl
  unfold Lp.ins Lp.after
  rw [e1, e2]
  cases hb : (Py.kof x == k.toList) <;> cases o <;> simp
theorem ins_keys (k : ByteArray) : ∀ (l : List ByteArray), Lp.ins (l.map pr) k (some e0) = (insK l k).map pr
  | [] => rfl
  | x :: l => by
    rw [List.map_cons]
    unfold insK
    cases h : lt x.toList k.toList with
    | true => rw [ins_lt (show lt (Py.kof (pr x)) k.toList = true from h), ins_keys k l, if_pos rfl, List.map_cons]
    | false =>
      rw [ins_ge (show lt (Py.kof (pr x)) k.toList = false from h), if_neg (show ¬ false = true by simp)]
      show [pr k] ++ (if kb x k = true then l.map pr else pr x :: l.map pr) = _
      by_cases h2 : kb x k = true
      · rw [if_pos h2, if_pos h2, kb_iff.1 h2]; rfl
      · rw [if_neg h2, if_neg h2]; rfl
theorem del_keys (k : ByteArray) : ∀ {l : List ByteArray}, l.Pairwise BefK → Lp.ins (l.map pr) k none = (l.filter (fun x => !kb x k)).map pr
  | [], _ => rfl
  | x :: l, hp => by
    obtain ⟨h1, h2⟩ := List.pairwise_cons.1 hp
    rw [List.map_cons]
    cases h : lt x.toList k.toList with
    | true =>
      have hne : kb x k = false := kb_ne (fun e => by rw [e, lt_irrefl] at h; cases h)
      rw [ins_lt (show lt (Py.kof (pr x)) k.toList = true from h), del_keys k h2, List.filter_cons_of_pos (by rw [hne]; rfl), List.map_cons]
    | false =>
      rw [ins_ge (show lt (Py.kof (pr x)) k.toList = false from h)]
      have hrest : ∀ y ∈ l, kb y k = false := fun y hy => kb_ne (fun e => by
        have := h1 y hy
        unfold BefK at this
        rw [e, h] at this
        cases this)
      have hf : l.filter (fun x => !kb x k) = l := List.filter_eq_self.2 (fun y hy => by rw [hrest y hy]; rfl)
      show [] ++ (if kb x k = true then l.map pr else pr x :: l.map pr) = _
      by_cases h3 : kb x k = true
      · rw [if_pos h3, List.filter_cons_of_neg (by rw [h3]; simp), hf]; rfl
      · rw [if_neg h3, List.filter_cons_of_pos (by rw [eq_false_of_ne_true h3]; rfl), hf]; rfl
/-- page.Put and page.Del over the keys' pages. -/
theorem keys_put {w0 w : World} {X : List Res} {kv : Value} {ks : List ByteArray} (h : KR w0 X kv ks) (hs : ks.length ≤ 400) (k : ByteArray) (hX : Mem w0 w X) :
    Calls Try.prog 25 #[kv, .string k, .string e0] w fun e w' => ∃ (v : Value) (Y : Res), e = .returned v ∧ Mem w w' [Y] ∧ KR w0 (Y :: X) v (insK ks k) := by
  obtain ⟨A, c, ps, rfl, h2, h3, h4, h5⟩ := h
  have hl : ps.length ≤ 400 := by have := pages_few h3; rw [h4, List.length_map] at this; omega
  obtain ⟨a, ⟨hrun⟩, a1, a2, a3⟩ := Lp.put_makes ps k e0 hl h3
  refine (hrun A c w (h5 w hX) h2).mono ?_
  rintro e w' ⟨v, hs, rfl, hP⟩
  refine ⟨v, star (row kH 32 v hs :: (inner hs a ++ [])), rfl, Mem.shut_star (F := []) (by simpa using hP.mem), ?_⟩
  obtain ⟨A', c', rfl, hc', _⟩ := hP.read
  refine ⟨A', c', a, rfl, hc', a1, by rw [a2, h4, ins_keys], fun w'' hM => ?_⟩
  have hP' : PgM w0 w'' (.slice A' a.length c') hs a X := ⟨hP.len, by have := hM.open_star; simpa using this⟩
  obtain ⟨A2, c2, e, _, _, hC⟩ := hP'.read
  injection e with e1
  rw [e1]
  exact hC
theorem keys_del {w0 w : World} {X : List Res} {kv : Value} {ks : List ByteArray} (h : KR w0 X kv ks) (hp : ks.Pairwise BefK) (hs : ks.length ≤ 400) (k : ByteArray) (hX : Mem w0 w X) :
    Calls Try.prog 32 #[kv, .string k] w fun e w' => ∃ (v : Value) (Y : Res), e = .returned v ∧ Mem w w' [Y] ∧ KR w0 (Y :: X) v (ks.filter (fun x => !kb x k)) := by
  obtain ⟨A, c, ps, rfl, h2, h3, h4, h5⟩ := h
  have hl : ps.length ≤ 400 := by have := pages_few h3; rw [h4, List.length_map] at this; omega
  obtain ⟨a, ⟨hrun⟩, a1, a2, a3⟩ := Lp.del_makes ps k hl h3
  refine (hrun A c w (h5 w hX) h2).mono ?_
  rintro e w' ⟨v, hs, rfl, hP⟩
  refine ⟨v, star (row kH 32 v hs :: (inner hs a ++ [])), rfl, Mem.shut_star (F := []) (by simpa using hP.mem), ?_⟩
  obtain ⟨A', c', rfl, hc', _⟩ := hP.read
  refine ⟨A', c', a, rfl, hc', a1, by rw [a2, h4, del_keys k hp], fun w'' hM => ?_⟩
  have hP' : PgM w0 w'' (.slice A' a.length c') hs a X := ⟨hP.len, by have := hM.open_star; simpa using this⟩
  obtain ⟨A2, c2, e, _, _, hC⟩ := hP'.read
  injection e with e1
  rw [e1]
  exact hC
theorem Tzw (m : Nat) (h : m ≤ 1000000) : IntKind.i64.wrap (m : Int) = (m : Int) := by unfold IntKind.wrap; simp [IntKind.bits, IntKind.signed]; omega
theorem set_last3 {l q : List Value} {p : Nat} {a0 b0 c0 : Value} (hq : q.length = p) (h : l.take (p + 3) = q ++ [a0, b0, c0]) (a b c : Value) : (((l.set p a).set (p + 1) b).set (p + 2) c).take (p + 3) = q ++ [a, b, c] := by
  have e : l = q ++ (a0 :: b0 :: c0 :: l.drop (p + 3)) := by
    conv => lhs; rw [← List.take_append_drop (p + 3) l, h]
    simp
  subst hq
  rw [e]
  simp only [List.set_append_right, Nat.le_refl, Nat.sub_self, List.set_cons_zero, Nat.le_add_right, Nat.add_sub_cancel_left, List.set_cons_succ, List.take_length_add_append]
  rfl
/-- The last version is turned in place. -/
theorem put_same (w0 w : World) (F : List Res) (g gm : Nat) (s : St) (kv : Value) (hdr : ByteArray → Value) (v : RV) (hM : Mem w0 w (blk g 116 (sc s.room (s.l.length : Int) s.top kv gm) :: mapS gm s hdr :: rowsS s hdr :: F)) (hn : s.l.length ≤ 300) (hk : v.f0.size ≤ maxLen) {a b : List RV} {y : RV} (hc : cut (isK v.f0) s.l = some (a, y, b)) (ht : y.f1 = v.f1) :
    Calls Try.prog 82 #[.pointer (some ⟨g, 0, none⟩), .string v.f0, .agg #[.int .i64 v.f1, .string v.f2, .bool v.f3]] w fun e w' => e = .returned (.int .i64 0) ∧ ∃ hdr', Mem w0 w' (blk g 116 (sc s.room (s.l.length : Int) s.top kv gm) :: mapS gm ⟨s.room, v.f1, a ++ v :: b⟩ hdr' :: rowsS ⟨s.room, v.f1, a ++ v :: b⟩ hdr' :: F) := by
  have hlen : (xsV s v.f0).length ≤ 300 := by
    unfold xsV vers
    rw [List.length_map]
    exact Nat.le_trans (List.length_filter_le _ _) hn
  have hSK : SK s v.f0 := by
    apply Classical.byContradiction
    intro h
    have := vers_nil.2 h
    rw [vers_cut hc] at this
    simp at this
  have M0 := Aside0.mk (hM.allocAt #[.int .i64 v.f1, .string v.f2, .bool v.f3] 120 w.heap.size rfl)
  obtain ⟨A, c, hrun, hl, hC, hS, _⟩ := lookS M0.out 2 3 rfl rfl hk
  have hS := hS hSK
  have M1 := Mem.rows_take (S' := fun j => ¬ j = v.f0 ∧ SK s j) (Mem.sel (ps := [_, _, _, _]) (F := F) [3, 0, 1, 2] 4 M0.out rfl rfl) hSK (fun _ h => h)
  have hp : 0 < (xsV s v.f0).length := by rw [xsV_cut hc]; simp
  obtain ⟨g', cap, hv, _⟩ := Kd.R_form (M1.hold (i := 0) rfl) hp
  have hv2 := hS.symm.trans hv
  injection hv2 with hA _ hcap
  subst hA
  subst hcap
  rw [hv] at M1
  obtain ⟨cs, hsz, htk, _, hnc, hcm, hM2⟩ := M1.row_blk flatkV 0 rfl
  have M2 := Aside0.mk hM2
  clear M1 hM hM2
  have hrd := (last_is s v.f0).resolve_left (fun h => by rw [hc] at h; cases h.2.2)
  obtain ⟨a', y', b', hc', _, hrd, _⟩ := hrd
  rw [hc] at hc'
  obtain ⟨rfl, rfl, rfl⟩ : a = a' ∧ y = y' ∧ b = b' := by simpa using hc'
  obtain ⟨ad, had, h0, h1, h2⟩ := atkV hC (((xsV s v.f0).length : Int) - 1) (by omega) (by omega)
  cases had
  rw [hrd] at h0 h1 h2
  have XV := Aside0.mk (xsV_cut hc)
  have XS := Aside0.mk hS
  have XL := Aside0.mk (show (a ++ v :: b).length = s.l.length by rw [(cut_some hc).1]; simp)
  have HT := Aside0.mk htk
  have HZ := Aside0.mk hsz
  have HB := Aside0.mk (show _ ∧ _ ∧ _ from ⟨hnc, hcm, hlen⟩)
  have HC := Aside0.mk hc
  have HD := Aside0.mk hv
  clear hrd hC hc' hS hv htk hsz hnc hcm hc
  generalize hm : (xsV s v.f0).length = m at *
  obtain ⟨m', rfl⟩ : ∃ m', m = m' + 1 := ⟨m - 1, by omega⟩
  have HM := Aside0.mk hm
  clear hm
  have em : ((m' + 1 : Nat) : Int) - 1 = (m' : Int) := by omega
  rw [em, Int.toNat_natCast] at h0 h1 h2
  rw [show (toV y).f0 = v.f1 from ht] at h0
  simp only [add_plain, Nat.zero_add] at h0 h1 h2
  have p1 : ((m' : Int) < (m' : Int) + 1) = True := eq_true (by omega)
  have p2 : ((0 : Int) < (m' : Int) + 1) = True := eq_true (by omega)
  have p3 : decide ((0 : Int) < (m' : Int) + 1) = true := decide_eq_true (by omega)
  have p4 : IntKind.i64.wrap ((m' : Int) + 1 - 1) = (m' : Int) := by rw [show (m' : Int) + 1 - 1 = (m' : Int) by omega]; exact Tzw _ (by omega)
  have cG := blk_cell (M2.out.blk_at 3 rfl)
  unfold sc at cG
  have cB := blk_cell (M2.out.blk_at 2 rfl)
  have fR := blk_frozen (M2.out.blk_at 0 rfl)
  go_enter Try.func82, Try.ntmps82
  go_upto_region 3 with (fail)
  go_quiet (fail)
  go_wp2_with fail
  have M3 := (((M2.out.drewN nq).set 0 rfl (m' * 3) (.int .i64 v.f1)).set 0 rfl (m' * 3 + 1) (.string v.f2)).set 0 rfl (m' * 3 + 2) (.bool v.f3)
  go_ret
  refine ⟨rfl, hdr, ?_⟩
  have hxl : ((vers a v.f0).map toV ++ [toV v]).length = m' + 1 := by
    have := congrArg List.length XV.out
    rw [HM.out] at this
    simpa using this.symm
  have M4 := M3.blk_row flatkV 0 ((vers a v.f0).map toV ++ [toV v]) rfl (by simp [HZ.out]) (by
    rw [hxl]
    have ht := HT.out
    rw [XV.out] at ht
    show (((cs.setIfInBounds _ _).setIfInBounds _ _).setIfInBounds _ _).toList.take ((m' + 1) * 3) = _
    rw [Array.toList_setIfInBounds, Array.toList_setIfInBounds, Array.toList_setIfInBounds, Nat.succ_mul]
    rw [List.flatMap_append] at ht ⊢
    refine set_last3 (q := ((vers a v.f0).map toV).flatMap enckV) ?_ (by rw [← Nat.succ_mul]; exact ht) _ _ _
    have hl := flat_len (sz := 3) (fun x => (rfl : (enckV x).length = 3)) ((vers a v.f0).map toV)
    rw [hl]
    have := hxl
    rw [List.length_append, List.length_singleton] at this
    omega) (by rw [hxl]; exact HB.out.1) HB.out.2.1
  rw [hxl] at M4
  have hk' := keys_set HC.out
  have e1 : mapS gm ⟨s.room, v.f1, a ++ v :: b⟩ hdr = mapS gm s hdr := by
    unfold mapS SK
    rw [hk']
  have M5 := Mem.rows_put (k := v.f0) (S' := SK ⟨s.room, v.f1, a ++ v :: b⟩) (hdr' := hdr) (xs' := xsV ⟨s.room, v.f1, a ++ v :: b⟩) M4 (fun h => h.1 rfl) (fun j hj => by
    by_cases e : j = v.f0
    · exact .inl e
    · refine .inr ⟨e, ?_⟩
      unfold SK at hj ⊢
      rwa [hk'] at hj) HD.out (by unfold xsV; rw [vers_set HC.out, List.map_append]; rfl) (fun j hj _ => ⟨rfl, by unfold xsV; rw [vers_set_other HC.out hj]⟩)
  rw [e1]
  exact Mem.sel (ps := [_, _, _, _]) (F := F) [2, 3, 0] 4 M5 rfl rfl
end Go.Proofs.Ytookpmdgoednfaa.Su
namespace Go.Proofs.Ytookpmdgoednfaa.Sv
open Go.RowKit YtookpmdgoednfaaW.PrintWords YtookpmdgoednfaaW.PrintLast YtookpmdgoednfaaW.PrintMore Mx St Ks Sw Su
open Pa hiding SP
theorem list_len {s : St} (hn : s.l.length ≤ 300) (k : ByteArray) : (xsV s k).length ≤ 300 := by
  unfold xsV vers
  rw [List.length_map]
  exact Nat.le_trans (List.length_filter_le _ _) hn
/-- The row at a key is taken out, or a nil one laid beside. -/
theorem part {w0 w : World} {F : List Res} {gm : Nat} {s : St} {hdr : ByteArray → Value} {k : ByteArray} (hk : k.size ≤ maxLen) (hM : Mem w0 w (rowsS s hdr :: mapS gm s hdr :: F)) :
    ∃ A c, ∃ S' : ByteArray → Prop, (Instr.lookup 114 (.map (some gm)) (.string k) false).run Try.prog w = .ok (.slice A (xsV s k).length c) w ∧ (∀ j, S' j ↔ ¬ j = k ∧ SK s j) ∧ (xsV s k).length ≤ c ∧ kV.C w A (xsV s k).length (xsV s k) ∧ (SK s k → hdr k = .slice A (xsV s k).length c) ∧ Mem w0 w (row kV 120 (.slice A (xsV s k).length c) (xsV s k) :: rowsK kV 120 S' hdr (xsV s) :: mapS gm s hdr :: F) := by
  obtain ⟨A, c, hrun, hl, hC, hS, hN⟩ := lookS hM 1 0 rfl rfl hk
  by_cases h : SK s k
  · refine ⟨A, c, fun j => ¬ j = k ∧ SK s j, hrun, fun j => Iff.rfl, hl, hC, hS, ?_⟩
    have := Mem.rows_take (S' := fun j => ¬ j = k ∧ SK s j) hM h (fun _ h => h)
    rwa [hS h] at this
  · obtain ⟨rfl, rfl, e⟩ := hN h
    refine ⟨none, 0, fun j => ¬ j = k ∧ SK s j, hrun, fun j => Iff.rfl, hl, hC, hS, ?_⟩
    have := Mem.row_nil (hM.rows_congr (S' := fun j => ¬ j = k ∧ SK s j) 0 rfl (fun _ h => h.2) (fun _ _ => rfl) (fun _ _ => rfl)) kV 120
    rw [e]
    exact this
theorem unpart {w0 w : World} {F : List Res} {s : St} {hdr : ByteArray → Value} {k : ByteArray} {v : Value} {S' : ByteArray → Prop} (hM : Mem w0 w (row kV 120 v (xsV s k) :: rowsK kV 120 S' hdr (xsV s) :: F)) (hS : ∀ j, S' j ↔ ¬ j = k ∧ SK s j) (hv : SK s k → hdr k = v) : Mem w0 w (rowsS s hdr :: F) := by
  by_cases h : SK s k
  · exact Mem.rows_put (k := k) (S' := SK s) (hdr' := hdr) (xs' := xsV s) hM (fun hh => ((hS k).1 hh).1 rfl) (fun j hj => by
      by_cases e : j = k
      · exact .inl e
      · exact .inr ((hS j).2 ⟨e, hj⟩)) (hv h) rfl (fun j _ _ => ⟨rfl, rfl⟩)
  · exact (Mem.sel (ps := [_]) (F := _ :: F) [] 1 hM rfl rfl).rows_congr (S' := SK s) 0 rfl (fun j hj => (hS j).2 ⟨fun e => h (e ▸ hj), hj⟩) (fun _ _ => rfl) (fun _ _ => rfl)
theorem insK_len {k : ByteArray} : ∀ {l : List ByteArray}, k ∉ l → (insK l k).length = l.length + 1
  | [], _ => rfl
  | x :: l, h => by
    unfold insK
    split
    · rw [List.length_cons, insK_len (fun hh => h (List.mem_cons_of_mem _ hh)), List.length_cons]
    · split
      · rename_i h2
        exact absurd (by rw [kb_iff.1 h2]; exact List.mem_cons_self ..) h
      · rfl
theorem insK_le (k : ByteArray) : ∀ (l : List ByteArray), (insK l k).length ≤ l.length + 1
  | [] => Nat.le_refl _
  | x :: l => by
    unfold insK
    have := insK_le k l
    split
    · rw [List.length_cons, List.length_cons]; omega
    · split <;> simp
theorem keys_le (l : List RV) : (allKeys l).length ≤ l.length := by
  have : ∀ (l : List RV) (a : List ByteArray), (l.foldl (fun ks x => insK ks x.f0) a).length ≤ a.length + l.length := by
    intro l
    induction l with
    | nil => intro a; exact Nat.le_refl _
    | cons x l ih =>
      intro a
      rw [List.foldl_cons, List.length_cons]
      have h1 := ih (insK a x.f0)
      have h2 := insK_le x.f0 a
      omega
  have h := this l []
  rw [List.length_nil, Nat.zero_add] at h
  exact h
/-- No version at the key has this very time as its last. -/
def Other (s : St) (v : RV) : Prop := ∀ a y b, cut (isK v.f0) s.l = some (a, y, b) → ¬ y.f1 = v.f1
theorem other_is {s : St} {v : RV} (h : Other s v) : xsV s v.f0 = [] ∨ (0 < (xsV s v.f0).length ∧ ¬ (rdkV (xsV s v.f0) (((xsV s v.f0).length : Int) - 1)).f0 = v.f1) := by
  rcases last_is s v.f0 with ⟨e, _⟩ | ⟨a, y, b, hc, hp, hr, _⟩
  · exact .inl e
  · exact .inr ⟨hp, by rw [hr]; exact h a y b hc⟩
theorem put_full (w0 w : World) (F : List Res) (g gm : Nat) (s : St) (kv : Value) (hdr : ByteArray → Value) (v : RV) (n : Int) (hM : Mem w0 w (blk g 116 (sc s.room n s.top kv gm) :: mapS gm s hdr :: rowsS s hdr :: F)) (hn : s.l.length ≤ 300) (hk : v.f0.size ≤ maxLen) (ho : Other s v) (hf : s.room ≤ n) :
    Calls Try.prog 82 #[.pointer (some ⟨g, 0, none⟩), .string v.f0, .agg #[.int .i64 v.f1, .string v.f2, .bool v.f3]] w fun e w' => e = .returned (.int .i64 4) ∧ Mem w0 w' (blk g 116 (sc s.room n s.top kv gm) :: mapS gm s hdr :: rowsS s hdr :: F) := by
  have M9 := Aside0.mk (hM.allocAt #[.int .i64 v.f1, .string v.f2, .bool v.f3] 120 w.heap.size rfl)
  have M0 := Aside0.mk (hM.allocAt #[.int .i64 v.f1, .string v.f2, .bool v.f3] 120 w.heap.size rfl)
  obtain ⟨A, c, S', hrun, hS', hl, hC, hv, hM1⟩ := part (F := blk w.heap.size 120 #[.int .i64 v.f1, .string v.f2, .bool v.f3] :: blk g 116 (sc s.room n s.top kv gm) :: F) hk (Mem.sel (ps := [_, _, _, _]) (F := F) [3, 2, 0, 1] 4 M0.out rfl rfl)
  have M1 := Aside0.mk hM1
  have HS := Aside0.mk hS'
  have HV := Aside0.mk hv
  have hlen := list_len hn v.f0
  have HN := Aside0.mk (show _ ∧ _ from ⟨hlen, hl⟩)
  have HO := Aside0.mk (other_is ho)
  have HOT := Aside0.mk ho
  clear hM M0 hM1 hS' ho hv
  have HC := Aside0.mk hC
  clear hC
  have hf2 : decide (s.room ≤ n) = true := decide_eq_true hf
  have hf3 : (s.room ≤ n) = True := eq_true hf
  clear hf
  have cG := blk_cell (M1.out.blk_at 4 rfl)
  unfold sc at cG
  have cB := blk_cell (M1.out.blk_at 3 rfl)
  go_enter Try.func82, Try.ntmps82
  go_upto_region 3 with (fail)
  go_cut [29] (fun v29 wx => v29 = .bool false ∧ Aside0 (Mem w0 wx (row kV 120 (.slice A (xsV s v.f0).length c) (xsV s v.f0) :: rowsK kV 120 S' hdr (xsV s) :: mapS gm s hdr :: blk w.heap.size 120 #[.int .i64 v.f1, .string v.f2, .bool v.f3] :: blk g 116 (sc s.room n s.top kv gm) :: F)))
  case first =>
    rcases HO.out with e0 | ⟨e0, e1⟩
    · have e2 : (xsV s v.f0).length = 0 := by rw [e0]; rfl
      have M2 := M1
      rw [e2] at M2
      generalize hm : (xsV s v.f0).length = m at *
      subst e2
      go_quiet (fail)
      go_wp2_with fail
      go_meet
      case rel => exact ⟨rfl, ⟨M1.out.drewN _⟩⟩
    · obtain ⟨ad, had, h0, h1, h2⟩ := atkV HC.out (((xsV s v.f0).length : Int) - 1) (by omega) (by omega)
      have hne : ((rdkV (xsV s v.f0) (((xsV s v.f0).length : Int) - 1)).f0 == v.f1) = false := by simpa using e1
      generalize (rdkV (xsV s v.f0) (((xsV s v.f0).length : Int) - 1)) = y at *
      obtain ⟨m', hm'⟩ : ∃ m', (xsV s v.f0).length = m' + 1 := ⟨(xsV s v.f0).length - 1, by omega⟩
      subst had
      rw [hm'] at hrun h0 h1 h2
      have em : ((m' + 1 : Nat) : Int) - 1 = (m' : Int) := by omega
      rw [em, Int.toNat_natCast] at h0 h1 h2
      have p1 : ((m' : Int) < (m' : Int) + 1) = True := eq_true (by omega)
      have p2 : ((0 : Int) < (m' : Int) + 1) = True := eq_true (by omega)
      have p3 : decide ((0 : Int) < (m' : Int) + 1) = true := decide_eq_true (by omega)
      have p4 : IntKind.i64.wrap ((m' : Int) + 1 - 1) = (m' : Int) := by rw [show (m' : Int) + 1 - 1 = (m' : Int) by omega]; exact Tzw _ (by omega)
      go_quiet (fail)
      go_wp2_with fail
      go_meet
      case rel => exact ⟨rfl, ⟨M1.out.drewN _⟩⟩
  case rest =>
  obtain ⟨rfl, M2⟩ := hcut
  clear M1 cG cB hrun M9
  have cG := blk_cell (M2.out.blk_at 4 rfl)
  unfold sc at cG
  go_wp2_with fail
  go_quiet (fail)
  go_wp2_with fail
  go_ret
  have M3 := M2.out.drewN nq
  refine ⟨rfl, ?_⟩
  exact Mem.sel (ps := [_, _, _, _]) (F := F) [3, 1, 0] 4 (unpart M3 HS.out HV.out) rfl rfl
open Classical in
noncomputable def hdrW (hdr : ByteArray → Value) (k : ByteArray) (v : Value) (j : ByteArray) : Value := if j = k then v else hdr j
theorem hdrW_same (hdr : ByteArray → Value) (k : ByteArray) (v : Value) : hdrW hdr k v k = v := if_pos rfl
theorem hdrW_other (hdr : ByteArray → Value) {k : ByteArray} (v : Value) {j : ByteArray} (h : ¬ j = k) : hdrW hdr k v j = hdr j := if_neg h
theorem newSK (s : St) (v : RV) (j : ByteArray) : SK ⟨s.room, v.f1, s.l ++ [v]⟩ j ↔ j = v.f0 ∨ SK s j := by
  unfold SK
  rw [keys_append, mem_insK]
theorem newLen (s : St) (v : RV) : (SK s v.f0 → (allKeys (s.l ++ [v])).length = (allKeys s.l).length) ∧ (¬ SK s v.f0 → (allKeys (s.l ++ [v])).length = (allKeys s.l).length + 1) := by
  rw [keys_append]
  exact ⟨fun h => by rw [insK_there h], fun h => insK_len h⟩
theorem put_more (w0 w : World) (F : List Res) (g gm : Nat) (s : St) (kv : Value) (hdr : ByteArray → Value) (v : RV) (n : Int) (hM : Mem w0 w (blk g 116 (sc s.room n s.top kv gm) :: mapS gm s hdr :: rowsS s hdr :: F)) (hn : s.l.length ≤ 300) (hk : v.f0.size ≤ maxLen) (ho : Other s v) (hf : ¬ s.room ≤ n) (hK : KR w0 F kv (allKeys s.l)) (n' : Int) (hn' : IntKind.i64.wrap (n + 1) = n') :
    Calls Try.prog 82 #[.pointer (some ⟨g, 0, none⟩), .string v.f0, .agg #[.int .i64 v.f1, .string v.f2, .bool v.f3]] w fun e w' => e = .returned (.int .i64 0) ∧ ∃ kv' hdr' Y, Mem w0 w' (blk g 116 (sc s.room n' v.f1 kv' gm) :: mapS gm ⟨s.room, v.f1, s.l ++ [v]⟩ hdr' :: rowsS ⟨s.room, v.f1, s.l ++ [v]⟩ hdr' :: Y :: F) ∧ KR w0 (Y :: F) kv' (allKeys (s.l ++ [v])) := by
  have M0 := Aside0.mk (hM.allocAt #[.int .i64 v.f1, .string v.f2, .bool v.f3] 120 w.heap.size rfl)
  obtain ⟨A, c, S', hrun, hS', hl, hC, hv, hM1⟩ := part (F := blk w.heap.size 120 #[.int .i64 v.f1, .string v.f2, .bool v.f3] :: blk g 116 (sc s.room n s.top kv gm) :: F) hk (Mem.sel (ps := [_, _, _, _]) (F := F) [3, 2, 0, 1] 4 M0.out rfl rfl)
  have M1 := Aside0.mk hM1
  have HS := Aside0.mk hS'
  have HV := Aside0.mk hv
  have hlen := list_len hn v.f0
  have HN := Aside0.mk (show _ ∧ _ from ⟨hlen, hl⟩)
  have HO := Aside0.mk (other_is ho)
  have HOT := Aside0.mk ho
  clear hM M0 hM1 hS' ho hv
  have HC := Aside0.mk hC
  clear hC
  have hf2 : decide (s.room ≤ n) = false := decide_eq_false hf
  have hf3 : (s.room ≤ n) = False := eq_false hf
  clear hf
  have HK := Aside0.mk hK
  have HN1 := Aside0.mk hn'
  clear hK hn'
  have cG := blk_cell (M1.out.blk_at 4 rfl)
  unfold sc at cG
  have cB := blk_cell (M1.out.blk_at 3 rfl)
  go_enter Try.func82, Try.ntmps82
  go_upto_region 3 with (fail)
  go_cut [29] (fun v29 wx => v29 = .bool false ∧ Aside0 (Mem w0 wx (row kV 120 (.slice A (xsV s v.f0).length c) (xsV s v.f0) :: rowsK kV 120 S' hdr (xsV s) :: mapS gm s hdr :: blk w.heap.size 120 #[.int .i64 v.f1, .string v.f2, .bool v.f3] :: blk g 116 (sc s.room n s.top kv gm) :: F)))
  case first =>
    rcases HO.out with e0 | ⟨e0, e1⟩
    · have e2 : (xsV s v.f0).length = 0 := by rw [e0]; rfl
      have M2 := M1
      rw [e2] at M2
      generalize hm : (xsV s v.f0).length = m at *
      subst e2
      go_quiet (fail)
      go_wp2_with fail
      go_meet
      case rel => exact ⟨rfl, ⟨M1.out.drewN _⟩⟩
    · obtain ⟨ad, had, h0, h1, h2⟩ := atkV HC.out (((xsV s v.f0).length : Int) - 1) (by omega) (by omega)
      have hne : ((rdkV (xsV s v.f0) (((xsV s v.f0).length : Int) - 1)).f0 == v.f1) = false := by simpa using e1
      generalize (rdkV (xsV s v.f0) (((xsV s v.f0).length : Int) - 1)) = y at *
      obtain ⟨m', hm'⟩ : ∃ m', (xsV s v.f0).length = m' + 1 := ⟨(xsV s v.f0).length - 1, by omega⟩
      subst had
      rw [hm'] at hrun h0 h1 h2
      have em : ((m' + 1 : Nat) : Int) - 1 = (m' : Int) := by omega
      rw [em, Int.toNat_natCast] at h0 h1 h2
      have p1 : ((m' : Int) < (m' : Int) + 1) = True := eq_true (by omega)
      have p2 : ((0 : Int) < (m' : Int) + 1) = True := eq_true (by omega)
      have p3 : decide ((0 : Int) < (m' : Int) + 1) = true := decide_eq_true (by omega)
      have p4 : IntKind.i64.wrap ((m' : Int) + 1 - 1) = (m' : Int) := by rw [show (m' : Int) + 1 - 1 = (m' : Int) by omega]; exact Tzw _ (by omega)
      go_quiet (fail)
      go_wp2_with fail
      go_meet
      case rel => exact ⟨rfl, ⟨M1.out.drewN _⟩⟩
  case rest =>
  obtain ⟨rfl, M2⟩ := hcut
  clear M1 cG cB hrun
  have cG := blk_cell (M2.out.blk_at 4 rfl)
  have fG := blk_frozen (M2.out.blk_at 4 rfl)
  unfold sc at cG
  go_wp2_with fail
  go_quiet (fail)
  have M3 := Aside0.mk (M2.out.drewN nq)
  clear M2
  go_upto_if 46 with (fail)
  go_cut [] (fun wx => ∃ (kv' : Value) (Y : Res), Aside0 (Mem w0 wx (row kV 120 (.slice A (xsV s v.f0).length c) (xsV s v.f0) :: rowsK kV 120 S' hdr (xsV s) :: mapS gm s hdr :: blk w.heap.size 120 #[.int .i64 v.f1, .string v.f2, .bool v.f3] :: blk g 116 (sc s.room n s.top kv' gm) :: Y :: F)) ∧ Aside0 (KR w0 (Y :: F) kv' (insK (allKeys s.l) v.f0)))
  case first =>
    rcases HO.out with e0 | ⟨e0, e1⟩
    · have e2 : (xsV s v.f0).length = 0 := by rw [e0]; rfl
      have e3 : (((xsV s v.f0).length : Int) == 0) = true := by rw [e2]; rfl
      clear e0 e2
      go_wp2_with fail
      refine (keys_put HK.out (by have := keys_le s.l; omega) v.f0 (Mem.sel (ps := [_, _, _, _, _]) (F := F) [] 5 M3.out rfl rfl)).mono ?_
      rintro e w3 ⟨vk, Y, rfl, hM, hKR⟩
      have M4 := Aside0.mk (M3.out.trans hM)
      clear hM
      have HK2 := Aside0.mk hKR
      obtain ⟨A2, c2, ps2, rfl, _⟩ := hKR
      have cG3 := blk_cell (M4.out.blk_at 5 rfl)
      have fG3 := blk_frozen (M4.out.blk_at 5 rfl)
      unfold sc at cG3
      go_wp2_with fail
      go_meet
      case rel => exact ⟨_, Y, ⟨Mem.sel (ps := [_, _, _, _, _, _]) (F := F) [1, 2, 3, 4, 5, 0] 6 (M4.out.set 5 rfl 3 (.slice A2 ps2.length c2)) rfl rfl⟩, HK2⟩
    · have e3 : (((xsV s v.f0).length : Int) == 0) = false := beq_eq_false_iff_ne.2 (by omega)
      go_wp2_with fail
      go_meet
      case rel => exact ⟨kv, emp, ⟨Mem.sel (ps := [_, _, _, _, _, _]) (F := F) [1, 2, 3, 4, 5, 0] 6 M3.out.cons_emp rfl rfl⟩, ⟨by
        have hin : SK s v.f0 := by
          apply Classical.byContradiction
          intro h
          have := vers_nil.2 h
          unfold xsV at e0
          rw [this] at e0
          simp at e0
        rw [insK_there hin]
        exact HK.out.behind emp⟩⟩
  case rest =>
  obtain ⟨kv', Y, M4, HK2⟩ := hcut
  clear M3 cG fG HK hf2 hf3
  have cG := blk_cell (M4.out.blk_at 4 rfl)
  have fG := blk_frozen (M4.out.blk_at 4 rfl)
  have cB := blk_cell (M4.out.blk_at 3 rfl)
  unfold sc at cG
  go_upto_region 10 with (fail)
  obtain ⟨nl, hnl⟩ : ∃ nl, (xsV s v.f0 ++ [toV v]).length = nl := ⟨_, rfl⟩
  have HNL := Aside0.mk hnl
  clear hnl
  have HG0 := Aside0.mk (blk_cell (M4.out.blk_at 4 rfl))
  have HB0 := Aside0.mk cB
  refine start_ (n := 10) (S := fun w' => (∀ j : Nat, w'.cell? ⟨g, j, none⟩ = wc.cell? ⟨g, j, none⟩) ∧ (∀ j : Nat, w'.cell? ⟨w.heap.size, j, none⟩ = wc.cell? ⟨w.heap.size, j, none⟩)) (ds := [9]) #[false, false, false, false, false, false, false, false, false, false] (by kernel_rfl) rfl rfl ⟨(fun j => rfl), (fun j => rfl)⟩ (fun hHeld => ?_)
  refine pure_ (i := 0) (N := some 56) (v := ?_) (a' := ?_) #[true, false, false, false, false, false, false, false, false, false] rfl rfl (by kernel_rfl) (fun _ _ _ h => h) (Or.inl ⟨by rfl, ?_⟩) ?_ ?_
  rotate_left
  · intro w'
    go_simp
    with_reducible rfl
  rotate_left
  · simp only [Act.put, List.setIfInBounds_toArray, List.set_cons_zero, List.set_cons_succ, i64_w, i32_w]
    rfl
  refine pure_ (i := 1) (N := some 57) (v := ?_) (a' := ?_) #[true, true, false, false, false, false, false, false, false, false] rfl rfl (by kernel_rfl) (fun _ _ _ h => h) (Or.inl ⟨by rfl, ?_⟩) ?_ ?_
  rotate_left
  · intro w'
    go_simp
    with_reducible rfl
  rotate_left
  · simp only [Act.put, List.setIfInBounds_toArray, List.set_cons_zero, List.set_cons_succ, i64_w, i32_w]
    rfl
  refine pure_ (i := 2) (N := some 58) (v := ?_) (a' := ?_) #[true, true, true, false, false, false, false, false, false, false] rfl rfl (by kernel_rfl) (fun _ _ _ h => h) (Or.inl ⟨by rfl, ?_⟩) ?_ ?_
  rotate_left
  · intro w'
    go_simp
    with_reducible rfl
  rotate_left
  · simp only [Act.put, List.setIfInBounds_toArray, List.set_cons_zero, List.set_cons_succ, i64_w, i32_w]
    rfl
  refine pure_ (i := 4) (N := some 60) (v := ?_) (a' := ?_) #[true, true, true, false, true, false, false, false, false, false] rfl rfl (by kernel_rfl) (fun _ _ _ h => h) (Or.inl ⟨by rfl, ?_⟩) ?_ ?_
  rotate_left
  · intro w'
    go_simp
    with_reducible rfl
  rotate_left
  · simp only [Act.put, List.setIfInBounds_toArray, List.set_cons_zero, List.set_cons_succ, i64_w, i32_w]
    rfl
  refine pure_ (i := 5) (N := some 61) (v := ?_) (a' := ?_) #[true, true, true, false, true, true, false, false, false, false] rfl rfl (by kernel_rfl) (fun _ _ _ h => h) (Or.inl ⟨by rfl, ?_⟩) ?_ ?_
  rotate_left
  · intro w'
    go_simp
    with_reducible rfl
  rotate_left
  · simp only [Act.put, List.setIfInBounds_toArray, List.set_cons_zero, List.set_cons_succ, i64_w, i32_w]
    rfl
  refine take_ (i := 3) (N := some 59) (v := ?_) (a' := ?_) #[true, true, true, true, true, true, false, false, false, false] rfl rfl (by kernel_rfl) (fun _ _ _ h => h) (Or.inl ⟨by rfl, ?_⟩) hHeld ?_ ?_
  rotate_left
  · rintro w' ⟨s0, s1⟩
    go_simp
    with_reducible rfl
  rotate_left
  · simp only [Act.put, List.setIfInBounds_toArray, List.set_cons_zero, List.set_cons_succ, i64_w, i32_w]
    rfl
  refine take_ (i := 6) (N := some 62) (v := ?_) (a' := ?_) #[true, true, true, true, true, true, true, false, false, false] rfl rfl (by kernel_rfl) (fun _ _ _ h => h) (Or.inl ⟨by rfl, ?_⟩) hHeld ?_ ?_
  rotate_left
  · rintro w' ⟨s0, s1⟩
    go_simp
    with_reducible rfl
  rotate_left
  · simp only [Act.put, List.setIfInBounds_toArray, List.set_cons_zero, List.set_cons_succ, i64_w, i32_w]
    rfl
  refine one_ (i := 7) (N := some 63) #[true, true, true, true, true, true, true, true, false, false] rfl rfl (by kernel_rfl) (by decide) (fun K hK => ?_)
  refine value_ (w1 := ?_) (v := ?_) (by rfl) rfl ?_ ?_
  rotate_left 2
  · go_simp
    constructor
    · rfl
    · rfl
  have M6 := Aside0.mk (M4.out.allocAt #[.int .i64 v.f1, .string v.f2, .bool v.f3] 120 wc.heap.size rfl).drew
  refine hK.out _ _ ⟨(fun j => (blk_cell (M6.out.blk_at 5 rfl) j).trans (HG0.out j).symm), (fun j => (blk_cell (M6.out.blk_at 4 rfl) j).trans (HB0.out j).symm)⟩ (fun hHeld => ?_)
  clear hK K
  refine norm_ (a' := ?_) ?_ ?_
  rotate_left
  · show Act.put _ (some 63) _ = _
    simp only [Act.put, List.setIfInBounds_toArray, List.set_cons_zero, List.set_cons_succ, i64_w, i32_w]
    rfl
  refine one_ (i := 8) (N := some 64) #[true, true, true, true, true, true, true, true, true, false] rfl rfl (by kernel_rfl) (by decide) (fun K hK => ?_)
  refine Mem.app_step kV (Rr := fun x cs => x = toV v ∧ cs = [.int .i64 v.f1, .string v.f2, .bool v.f3]) M6.out 1 _ (xsV s v.f0) [toV v] (by rfl) (.tmp 61) (.tmp 63) 121 120 _ _ rfl Try.underlying121 infokV rfl (by decide) (by omega) (some ⟨wc.heap.size, 0, none⟩) 1 1 (by first | rfl | simp [Act.eval, Act.put]) (by first | rfl | simp [Act.eval, Act.put]) rfl (reads_one (toV v) (M6.out.blk_at 0 rfl) rfl) (fun x cs h => by obtain ⟨rfl, rfl⟩ := h; exact kV_mkM _ _ _ (toV v)) (by have := HN.out; omega) ?_
  intro v1 w6 hM
  have M7 := Aside0.mk hM
  clear hM
  obtain ⟨B, d, he, _, _⟩ := M7.out.row_at 1 rfl
  rw [HNL.out] at he
  subst he
  refine hK.out _ _ ⟨(fun j => (blk_cell (M7.out.blk_at 5 rfl) j).trans (HG0.out j).symm), (fun j => (blk_cell (M7.out.blk_at 4 rfl) j).trans (HB0.out j).symm)⟩ (fun hHeld => ?_)
  clear hK K
  refine norm_ (a' := ?_) ?_ ?_
  rotate_left
  · show Act.put _ (some 64) _ = _
    simp only [Act.put, List.setIfInBounds_toArray, List.set_cons_zero, List.set_cons_succ, i64_w, i32_w]
    rfl
  refine last_ (i := 9) (N := none) #[true, true, true, true, true, true, true, true, true, true] rfl rfl (by kernel_rfl) (by decide) (fun K hK => ?_)
  obtain ⟨w7, hmu, hM⟩ := M7.out.map_put 3 rfl Try.underlying9 (t := 114) Try.underlying114 (by have := keys_le s.l; unfold maxLen; omega) hk (.slice B nl d) (n' := (allKeys (s.l ++ [v])).length) (newLen s v) (S' := SK ⟨s.room, v.f1, s.l ++ [v]⟩) (hdr' := hdrW hdr v.f0 (.slice B nl d)) (fun j => newSK s v j) (hdrW_same _ _ _) (fun j hj _ => hdrW_other _ _ hj)
  have M8 := Aside0.mk hM
  clear hM
  refine skip_ (w1 := ?_) (by rfl) rfl ?_ ?_
  rotate_left
  · go_simp
    rfl
  refine hK.out _ _ ?_
  clear hK K
  refine done_ (by kernel_rfl) ?_
  clear cG fG cB
  have cG := blk_cell (M8.out.blk_at 5 rfl)
  have fG := blk_frozen (M8.out.blk_at 5 rfl)
  have cB := blk_cell (M8.out.blk_at 4 rfl)
  unfold sc at cG
  have hn2 := HN1.out
  go_wp2_with fail
  go_ret
  have M9 := (M8.out.set 5 rfl 1 (.int .i64 n')).set 5 rfl 2 (.int .i64 v.f1)
  have M10 := Mem.rows_put (k := v.f0) (S' := SK ⟨s.room, v.f1, s.l ++ [v]⟩) (hdr' := hdrW hdr v.f0 (.slice B nl d)) (xs' := xsV ⟨s.room, v.f1, s.l ++ [v]⟩) (Mem.sel (ps := [_, _, _, _, _, _, _]) (F := F) [1, 2, 3, 5, 6] 7 M9 rfl rfl) (fun h => ((HS.out v.f0).1 h).1 rfl) (fun j hj => by
    by_cases e : j = v.f0
    · exact .inl e
    · exact .inr ((HS.out j).2 ⟨e, ((newSK s v j).1 hj).resolve_left e⟩)) (hdrW_same _ _ _) (by unfold xsV; rw [vers_append_same, List.map_append]; rfl) (fun j hj _ => ⟨hdrW_other _ _ hj, by unfold xsV; rw [vers_append_other _ _ hj]⟩)
  refine ⟨rfl, kv', hdrW hdr v.f0 (.slice B nl d), Y, ?_, ?_⟩
  · exact Mem.sel (ps := [_, _, _, _]) (F := F) [2, 1, 0, 3] 4 M10 rfl rfl
  · rw [keys_append]
    exact HK2.out
/-- A version laid at a key. -/
structure StM (w0 w : World) (g gm : Nat) (s : St) (kv : Value) (hdr : ByteArray → Value) (F : List Res) : Prop where
  mem : Mem w0 w (blk g 116 (sc s.room (s.l.length : Int) s.top kv gm) :: mapS gm s hdr :: rowsS s hdr :: F)
  keys : KR w0 F kv (allKeys s.l)
/-- .. and what may have come beside. -/
def StA (w0 w : World) (g gm : Nat) (s : St) (F : List Res) : Prop := ∃ kv hdr Y, StM w0 w g gm s kv hdr (Y :: F)
theorem StM.any {w0 w : World} {g gm : Nat} {s : St} {kv : Value} {hdr : ByteArray → Value} {F : List Res} (h : StM w0 w g gm s kv hdr F) : StA w0 w g gm s F :=
  ⟨kv, hdr, emp, Mem.sel (ps := [_, _, _, _]) (F := F) [1, 2, 3, 0] 4 h.mem.cons_emp rfl rfl, h.keys.behind emp⟩
theorem put_calls {w0 w : World} {F : List Res} {g gm : Nat} {s : St} {kv : Value} {hdr : ByteArray → Value} (h : StM w0 w g gm s kv hdr F) (hI : Inv s) (v : RV) (hn : s.l.length ≤ 300) (hk : v.f0.size ≤ maxLen) (ht : mayT s v.f1 = true) (hg : ¬ (v.f3 = true ∧ ∀ a y b, cut (isK v.f0) s.l = some (a, y, b) → y.f3 = true)) :
    Calls Try.prog 82 #[.pointer (some ⟨g, 0, none⟩), .string v.f0, .agg #[.int .i64 v.f1, .string v.f2, .bool v.f3]] w fun e w' => e = .returned (.int .i64 (put s v).2) ∧ StA w0 w' g gm (put s v).1 F := by
  obtain ⟨t1, t2, t3⟩ := mayT_iff.1 ht
  by_cases hs : ∃ a y b, cut (isK v.f0) s.l = some (a, y, b) ∧ y.f1 = v.f1
  · obtain ⟨a, y, b, hc, hy⟩ := hs
    have e : put s v = (⟨s.room, v.f1, a ++ v :: b⟩, 0) := by
      unfold put
      rw [if_neg (by rw [ht]; simp), hc]
      simp only []
      rw [if_neg (fun hh => hg ⟨hh.1, fun a' y' b' hc' => by rw [hc] at hc'; obtain ⟨_, rfl, _⟩ : a = a' ∧ y = y' ∧ b = b' := (by simpa using hc'); exact hh.2⟩), if_pos hy]
    have htop : s.top = v.f1 := by
      have := hI.hi y (by rw [(cut_some hc).1]; simp)
      omega
    rw [e]
    refine (put_same w0 w F g gm s kv hdr v h.mem hn hk hc hy).mono ?_
    rintro e' w' ⟨rfl, hdr', hM⟩
    refine ⟨rfl, StM.any (kv := kv) (hdr := hdr') ⟨?_, ?_⟩⟩
    · rw [show ((⟨s.room, v.f1, a ++ v :: b⟩ : St).l.length : Int) = (s.l.length : Int) by rw [(cut_some hc).1]; simp]
      show Mem w0 w' (blk g _ (sc s.room (s.l.length : Int) v.f1 kv gm) :: _)
      rw [← htop] at hM ⊢
      exact hM
    · show KR w0 F kv (allKeys (a ++ v :: b))
      rw [keys_set hc]
      exact h.keys
  · have ho : Other s v := fun a y b hc hy => hs ⟨a, y, b, hc, hy⟩
    by_cases hf : s.room ≤ (s.l.length : Int)
    · have e : put s v = (s, 4) := by
        unfold put
        rw [if_neg (by rw [ht]; simp)]
        split
        · rename_i hc
          rw [if_neg (fun hv => hg ⟨hv, fun a y b hc' => by rw [hc] at hc'; cases hc'⟩), if_pos hf]
        · rename_i a y b hc
          rw [if_neg (fun hh => hg ⟨hh.1, fun a' y' b' hc' => by rw [hc] at hc'; obtain ⟨_, rfl, _⟩ : a = a' ∧ y = y' ∧ b = b' := (by simpa using hc'); exact hh.2⟩), if_neg (ho a y b hc), if_pos hf]
      rw [e]
      refine (put_full w0 w F g gm s kv hdr v _ h.mem hn hk ho hf).mono ?_
      rintro e' w' ⟨rfl, hM⟩
      exact ⟨rfl, StM.any (kv := kv) (hdr := hdr) ⟨hM, h.keys⟩⟩
    · have e : put s v = (⟨s.room, v.f1, s.l ++ [v]⟩, 0) := by
        unfold put
        rw [if_neg (by rw [ht]; simp)]
        split
        · rename_i hc
          rw [if_neg (fun hv => hg ⟨hv, fun a y b hc' => by rw [hc] at hc'; cases hc'⟩), if_neg hf]
        · rename_i a y b hc
          rw [if_neg (fun hh => hg ⟨hh.1, fun a' y' b' hc' => by rw [hc] at hc'; obtain ⟨_, rfl, _⟩ : a = a' ∧ y = y' ∧ b = b' := (by simpa using hc'); exact hh.2⟩), if_neg (ho a y b hc), if_neg hf]
      rw [e]
      refine (put_more w0 w F g gm s kv hdr v _ h.mem hn hk ho hf h.keys ((s.l ++ [v]).length : Int) (by rw [List.length_append, List.length_singleton]; have := Tzw (s.l.length + 1) (by omega); push_cast at this ⊢; exact this)).mono ?_
      rintro e' w' ⟨rfl, kv', hdr', Y, hM, hK⟩
      exact ⟨rfl, kv', hdr', Y, hM, hK⟩
end Go.Proofs.Ytookpmdgoednfaa.Sv
