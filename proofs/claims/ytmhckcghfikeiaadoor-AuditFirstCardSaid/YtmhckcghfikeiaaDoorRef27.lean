/- tollref27.Find. -/
import Derived.Test.YtmhckcghfikeiaaDoorRef27a
import Derived.Deep.Cut
import Derived.Deep.CutBlock
namespace Go.Proofs.YtmhckcghfikeiaaDoor
open Go.RowKit
attribute [local irreducible] wpQuiet wpAnyH
set_option linter.unusedSimpArgs false

theorem rows_at {w : World} {A : Option Addr} {cap : Nat} {l : List RowD} (h : Sn w 36 (.slice A l.length cap) l.length (l.flatMap rowC)) (hok : ∀ r ∈ l, RowOk r) (k : Nat) (hk : k < l.length) :
    ∃ b off, A = some ⟨b, off, none⟩ ∧ ∀ j (hj : j < l.length), w.rangeAt b (off + j * 36) (rowC l[j]) := by
  obtain ⟨b, off, rfl, _⟩ := at_row h hok k hk
  refine ⟨b, off, rfl, fun j hj => ?_⟩
  obtain ⟨b', off', e, hr⟩ := at_row h hok j hj
  injection e with e
  injection e with e1 e2
  subst e1 e2
  exact hr
theorem cont_snoc (l : List (List Int)) (d : List Int) (q : Nat) (h : q < l.length) : (l.take (q + 1)).contains d = ((l.take q).contains d || decide (l[q] = d)) := by
  rw [List.take_succ_eq_append_getElem h, Bool.eq_iff_iff]
  have e : d = l[q] ↔ l[q] = d := ⟨Eq.symm, Eq.symm⟩
  simp only [List.contains_iff_mem, List.mem_append, List.mem_singleton, Bool.or_eq_true, decide_eq_true_eq, e]
theorem build_dig (d : List Int) (h : d.length = 32) : List.foldl (fun (cs : Array Value) (x : Value × Nat) => cs.setIfInBounds x.2 x.1) #[Value.int IntKind.u8 0, Value.int IntKind.u8 0, Value.int IntKind.u8 0, Value.int IntKind.u8 0, Value.int IntKind.u8 0, Value.int IntKind.u8 0, Value.int IntKind.u8 0, Value.int IntKind.u8 0, Value.int IntKind.u8 0, Value.int IntKind.u8 0, Value.int IntKind.u8 0, Value.int IntKind.u8 0, Value.int IntKind.u8 0, Value.int IntKind.u8 0, Value.int IntKind.u8 0, Value.int IntKind.u8 0, Value.int IntKind.u8 0, Value.int IntKind.u8 0, Value.int IntKind.u8 0, Value.int IntKind.u8 0, Value.int IntKind.u8 0, Value.int IntKind.u8 0, Value.int IntKind.u8 0, Value.int IntKind.u8 0, Value.int IntKind.u8 0, Value.int IntKind.u8 0, Value.int IntKind.u8 0, Value.int IntKind.u8 0, Value.int IntKind.u8 0, Value.int IntKind.u8 0, Value.int IntKind.u8 0, Value.int IntKind.u8 0] (u8s d).zipIdx = (u8s d).toArray := by
  obtain ⟨D, rfl⟩ : ∃ D : Nat → Int, d = (List.range 32).map D := ⟨fun i => d.getD i 0, by
    apply List.ext_getElem
    · simpa using h
    · intro i h1 h2
      simp [List.getD_eq_getElem?_getD, List.getElem?_eq_getElem h1]⟩
  kernel_rfl
theorem quar_code (c : Int) : (c == 8 || (c == 9 || c == 10)) = (decide (8 ≤ c) && decide (c ≤ 10)) := by
  rw [Bool.eq_iff_iff]
  simp only [Bool.or_eq_true, beq_iff_eq, Bool.and_eq_true, decide_eq_true_eq]
  omega
/-- What the relation of the loop says of the two flags. -/
def BU (skew : Int) (s : VS) (bo un : Value) : Prop := bo = .bool s.booted ∧ ∃ z, un = .int .i64 z ∧ isI64 z ∧ (s.booted = true → z = addS s.boot skew)

theorem quar_eq (skew : Int) (s : VS) (r : RowD) (z : Int) (BO K : Bool) (hK : (r.kind == 3) = K) (hB : s.booted = BO) (hz : s.booted = true → z = addS s.boot skew) : ruleB 2 (mkV skew s r) = (K && ((decide (8 ≤ r.code) && decide (r.code ≤ 10)) && (!BO || decide (r.now ≤ z)))) := by
  show quarB _ = _
  unfold quarB ansB mkV
  simp only [quar_code, hK, hB]
  cases BO with
  | false => rfl
  | true => rw [hz hB]
theorem grow_eq (skew : Int) (s : VS) (r : RowD) (K : Bool) (hK : (r.kind == 3) = K) (hl : -1099511627776 ≤ s.live ∧ s.live ≤ 1099511627776) : ruleB 4 (mkV skew s r) = (K && ((r.code == 10) && (r.live != s.live + 1))) := by
  show growB _ = _
  unfold growB ansB mkV
  have : (s.live == 9223372036854775807) = false := by
    rw [beq_eq_false_iff_ne]
    omega
  simp only [hK, this, Bool.false_or]
set_option maxRecDepth 100000 in
set_option maxHeartbeats 8000000 in
theorem ref_find_any (skew : Int) (l : List RowD) (A : Option Addr) (cap : Nat) (w : World) (hs : Sn w 36 (.slice A l.length cap) l.length (l.flatMap rowC)) (hok : ∀ r ∈ l, RowOk r) (hsk : isI64 skew) (hl : l.length ≤ 60) (hlive : ∀ r ∈ l, -1099511627776 ≤ r.live ∧ r.live ≤ 1099511627776) :
    Calls Tryd.prog 11 #[.int .i64 skew, .slice A l.length cap] w fun e w' => ∃ v, e = .returned v ∧ w'.ownsRow w.heap.size 33 2 v (findL skew l).length ((findL skew l).flatMap findC) ∧ Below w.heap.size w w' := by
  have HS := Lib.hid hs
  have HOK := Lib.hid hok
  have HLV := Lib.hid hlive
  have HSK := Lib.hid hsk
  clear hs hok hlive hsk
  go_enter Tryd.func11, Tryd.ntmps11
  go_wp2_with fail
  go_loopw [5, 6, 7, 8, 9] (fun m acc bo un i wr => ∃ k : Nat, k ≤ l.length ∧ i = .int .i64 k ∧ Hid (BU skew (stAt l k) bo un) ∧ Hid (RI w m acc (findK skew l k) (stAt l k).acc wr)) (fun _ _ _ _ i _ => l.length - (intOf i).toNat)
  case atStart => exact ⟨0, Nat.zero_le _, rfl, Lib.hid ⟨rfl, 0, rfl, by simp [isI64], fun h => by cases h⟩, Lib.hid ⟨World.ownsRow_nil _ _ _ _, World.ownsRow_nil _ _ _ _, Below.refl _ _⟩⟩
  case round => as_aux_lemma =>
    obtain ⟨k, hk, rfl, HBU, HR⟩ := hrel
    rcases Nat.lt_or_ge k l.length with hlt | hge
    · obtain ⟨b, off, eA, hrows⟩ := rows_at HS.out HOK.out k hlt
      subst eA
      obtain ⟨r, hr⟩ : ∃ r, r = l[k] := ⟨_, rfl⟩
      have hro : RowOk r := by rw [hr]; exact HOK.out _ (List.getElem_mem _)
      obtain ⟨s, hs⟩ : ∃ s, s = stAt l k := ⟨_, rfl⟩
      obtain ⟨V, hV⟩ : ∃ V, V = viewAt skew l k l[k] := ⟨_, rfl⟩
      have hVs : V = mkV skew s r := by rw [hV, hs, hr]; rfl
      rw [← hs] at HBU HR
      have HC : Hid (∀ wx, Below w.heap.size w wx → wx.cell? ⟨b, off + k * 36, none⟩ = some (.int .i64 r.kind) ∧ wx.cell? ⟨b, off + k * 36 + 1, none⟩ = some (.int .i64 r.code) ∧ wx.cell? ⟨b, off + k * 36 + 2, none⟩ = some (.int .i64 r.now) ∧ wx.cell? ⟨b, off + k * 36 + 3, none⟩ = some (.int .i64 r.live) ∧ wx.rangeAt b (off + k * 36 + 4) (u8s r.dig)) := Lib.hid fun wx hb => by
        have h := hrows k hlt
        rw [← hr] at h
        refine ⟨Below.cell' hb (h 0 _ rfl), Below.cell' hb (h 1 _ rfl), Below.cell' hb (h 2 _ rfl), Below.cell' hb (h 3 _ rfl), fun j u hj => Below.cell' hb (row_dig h j u hj)⟩
      have HP : Hid (∀ j, k = j + 1 → ∀ wx, Below w.heap.size w wx → wx.cell? ⟨b, off + j * 36 + 2, none⟩ = some (.int .i64 s.now) ∧ wx.cell? ⟨b, off + j * 36 + 3, none⟩ = some (.int .i64 s.live)) := Lib.hid fun j e => by
        subst e
        have hj : j < l.length := by omega
        have h := hrows j hj
        obtain ⟨p1, p2⟩ := stAt_prev l j hj
        rw [← hs] at p1 p2
        rw [p1, p2]
        exact fun wx hb => ⟨Below.cell' hb (h 2 _ rfl), Below.cell' hb (h 3 _ rfl)⟩
      have HF : Hid (s.first = decide (k = 0) ∧ (k = 0 → s.live = 0) ∧ (-1099511627776 ≤ s.live ∧ s.live ≤ 1099511627776)) := Lib.hid (by
        rw [hs]
        refine ⟨stAt_first l k hk, fun e => by subst e; rfl, ?_⟩
        cases k with
        | zero => constructor <;> (simp [stAt, vs0])
        | succ j =>
          rw [(stAt_prev l j (by omega)).2]
          exact HLV.out _ (List.getElem_mem _))
      have HVS := Lib.hid hVs
      have HV := Lib.hid hV
      have HSt := Lib.hid hs
      have HRr := Lib.hid hr
      have HDA : Hid (∀ d ∈ s.acc, DigOk d) := Lib.hid (by
        rw [hs]
        intro d hd
        have h := (stAt_ok HOK.out k hk).acc d hd
        exact ⟨h.1, h.2⟩)
      have HRO := Lib.hid hro
      have HLIV : Hid (-1099511627776 ≤ r.live ∧ r.live ≤ 1099511627776) := Lib.hid (by rw [hr]; exact HLV.out _ (List.getElem_mem _))
      obtain ⟨FK, hFK⟩ : ∃ FK, FK = findK skew l k := ⟨_, rfl⟩
      rw [← hFK] at HR
      have HFK := Lib.hid hFK
      have HFL : Hid (FK.length ≤ 300) := Lib.hid (by rw [hFK]; have := findK_len skew l k; omega)
      have HAL : Hid (s.acc.length ≤ 60) := Lib.hid (by rw [hs]; have := stAt_acc_len l k hk; omega)
      have hi0 : (0 : Int) ≤ k := by omega
      have hi1 : (k : Int) < l.length := by omega
      clear hrows hr hro hs hV hVs hFK
      -- the live entries ahead of the row
      go_upto_region 9 with fail
      go_cut [21] from 14 to 207 (fun c wx => c = .bool (decide (0 < k)) ∧ wx = wr)
      case first => as_aux_lemma =>
        go_wp2_with fail
        go_meet
        exact ⟨rfl, by trivial⟩
      case rest => as_aux_lemma =>
      obtain ⟨rfl, rfl⟩ := hcut
      go_upto_if 21 with fail
      go_cut [10] from 14 to 207 (fun c wx => c = .int .i64 s.live ∧ wx = wc)
      case first => as_aux_lemma =>
        have hcl := HR.out.bel
        rcases k with _ | j
        · have t1 : decide ((0 : Int) < ((0 : Nat) : Int)) = false := by decide
          go_wp2_with fail
          go_meet
          exact ⟨by rw [HF.out.2.1 (by trivial)], by trivial⟩
        · have c3 := (HP.out j rfl wc hcl).2
          have t1 : decide (0 < j + 1) = true := by simp
          go_wp2_with fail
          go_meet
          exact ⟨by trivial, by trivial⟩
      case rest => as_aux_lemma =>
      obtain ⟨rfl, rfl⟩ := hcut
      -- rule clock
      go_upto_region 11 with fail
      go_cut [43] from 14 to 207 (fun c wx => c = .bool (ruleB 0 V) ∧ Hid (RI w u5 u6 (FK ++ brk k V 0 0) s.acc wx))
      case first => as_aux_lemma =>
        obtain ⟨c0, c1, c2, c3, _⟩ := HC.out wc HR.out.bel
        have HR0 : Hid (RI w u5 u6 (FK ++ brk k V 0 0) s.acc wc) := Lib.hid (by have := HR.out; unfold brk; simpa using this)
        rcases k with _ | j
        · have t1 : decide (0 < 0) = false := by decide
          have t1b : decide ((0 : Int) < 0) = false := by decide
          have t1c : decide ((0 : Int) < ((0 : Nat) : Int)) = false := by decide
          have HVF : Hid (false = ruleB 0 V) := Lib.hid (by rw [HVS.out]; show false = clockB _; unfold clockB mkV; rw [HF.out.1]; rfl)
          go_wp2_with fail
          go_quiet (fail)
          go_wp2_with fail
          go_meet
          exact ⟨congrArg Value.bool (HVF.out), Lib.hid (HR0.out.drewN _)⟩
        · have c2' := (HP.out j rfl wc HR.out.bel).1
          have t1 : decide (0 < j + 1) = true := by simp
          have t1b : decide ((0 : Int) < (j : Int) + 1) = true := decide_eq_true (by omega)
          have t1c : decide ((0 : Int) < ((j + 1 : Nat) : Int)) = true := decide_eq_true (by omega)
          have y1 : IntKind.i64.wrap ((j : Int) + 1 - 1) = (j : Int) := by rw [Int.add_sub_cancel]; exact IntWalk.i64_in _ (by omega)
          have y2 : IntKind.i64.wrap (((j + 1 : Nat) : Int) - 1) = (j : Int) := by rw [show ((j + 1 : Nat) : Int) - 1 = (j : Int) by omega]; exact IntWalk.i64_in _ (by omega)
          have y3 : IntKind.i64.wrap (j : Int) = (j : Int) := IntWalk.i64_in _ (by omega)
          have y4 : (0 : Int) ≤ j := by omega
          have y5 : (j : Int) < l.length := by omega
          rcases Bool.eq_false_or_eq_true (decide (r.now < s.now)) with t2 | t2
          all_goals
            have HVF : Hid (decide (r.now < s.now) = ruleB 0 V) := Lib.hid (by rw [HVS.out]; show _ = clockB _; unfold clockB mkV; rw [HF.out.1]; simp)
            rw [t2] at HVF
            go_wp2_with fail
            go_quiet (fail)
            go_wp2_with fail
            go_meet
            exact ⟨congrArg Value.bool (HVF.out), Lib.hid (HR0.out.drewN _)⟩
      case rest => as_aux_lemma =>
      obtain ⟨rfl, HR'⟩ := hcut
      clear HR
      go_upto_if 43 with fail
      go_cut [5] from 14 to 207 (fun m wx => Hid (RI w m u6 (FK ++ brk k V 0 1) s.acc wx))
      case first => as_aux_lemma =>
        have hszc := HR'.out.bel.size
        have hfc : (findC (0, k)).length = 2 := rfl
        have hfl2 : (FK ++ brk k V 0 0).length ≤ 310 := by have := HFL.out; have := brk_len k V 0; rw [List.length_append]; omega
        obtain ⟨FX, hFX⟩ : ∃ FX, FX = FK ++ brk k V 0 0 := ⟨_, rfl⟩
        rw [← hFX] at HR' hfl2
        have HFX := Lib.hid hFX
        clear hFX
        rcases Bool.eq_false_or_eq_true (ruleB 0 V) with hb | hb
        · have HB := Lib.hid hb
          rw [hb]
          clear hb
          go_wp2_with (at_builtin; refine app tRef (.tmp 44) (.tmp 47) rfl rfl (by rfl) (HR'.out.out.alloc _) (by rfl) (Sn.new wc (findC (0, k)).toArray 33 2 1 rfl) (findC_one _) (by unfold maxLen; omega) (by omega) (by simp; omega) ?_; intro v3 w3 hown hgrow _; rw [List.toList_toArray] at hown; have HN := Lib.hid (HR'.out.add hown hgrow); clear hown hgrow)
          go_meet
          refine Lib.hid ?_
          rw [show brk k V 0 1 = brk k V 0 0 ++ [(0, k)] by rw [show 1 = 0 + 1 from rfl, brk_succ, if_pos HB.out], ← List.append_assoc, ← HFX.out]
          exact HN.out
        · have HB := Lib.hid hb
          rw [hb]
          clear hb
          go_wp2_with fail
          go_meet
          refine Lib.hid ?_
          rw [show brk k V 0 1 = brk k V 0 0 by rw [show 1 = 0 + 1 from rfl, brk_succ, if_neg (by rw [HB.out]; exact Bool.false_ne_true), List.append_nil], ← HFX.out]
          exact HR'.out
      case rest => as_aux_lemma =>
      have HR := hcut
      clear HR' hcut
      -- rule once
      obtain ⟨c0, c1, c2, c3, _⟩ := HC.out wc HR.out.bel
      go_upto_region 14 with fail
      obtain ⟨K, hK⟩ : ∃ K, (r.kind == 3) = K := ⟨_, rfl⟩
      rw [hK]
      have HK := Lib.hid hK
      clear hK
      go_cut [63] from 14 to 207 (fun c wx => c = .bool (isAcc r) ∧ wx = wc)
      case first => as_aux_lemma =>
        cases K <;> rcases Bool.eq_false_or_eq_true (r.code == 10) with t2 | t2
        all_goals
          have HVF : Hid (((r.kind == 3) && (r.code == 10)) = isAcc r) := Lib.hid rfl
          rw [HK.out, t2] at HVF
          go_wp2_with fail
          go_meet
          exact ⟨congrArg Value.bool HVF.out, by trivial⟩
      case rest => as_aux_lemma =>
      obtain ⟨rfl, rfl⟩ := hcut
      clear c0 c1 c2 c3
      go_upto_if 63 with fail
      go_cut [5, 6] from 14 to 207 (fun m ac wx => Hid (RI w m ac (FK ++ brk k V 0 2) (nxt s r).acc wx))
      case first => as_aux_lemma =>
        obtain ⟨FX, hFX⟩ : ∃ FX, FX = FK ++ brk k V 0 1 := ⟨_, rfl⟩
        have hfl2 : FX.length ≤ 310 := by rw [hFX]; have := HFL.out; have := brk_len k V 1; rw [List.length_append]; omega
        have HFL2 := Lib.hid hfl2
        rw [← hFX] at HR
        have HFX := Lib.hid hFX
        clear hFX hfl2
        have HON : Hid (ruleB 1 V = (isAcc r && s.acc.contains r.dig)) := Lib.hid (by rw [HVS.out]; show onceB _ = _; unfold onceB ansB mkV isAcc; rw [Bool.and_assoc])
        have HBR : Hid (FK ++ brk k V 0 2 = FX ++ if ruleB 1 V then [(1, k)] else []) := Lib.hid (by rw [show brk k V 0 2 = brk k V 0 1 ++ (if ruleB 1 V then [(1, k)] else []) from brk_succ k V 1, ← List.append_assoc, ← HFX.out])
        have HNA : Hid ((nxt s r).acc = if isAcc r then s.acc ++ [r.dig] else s.acc) := Lib.hid rfl
        rcases Bool.eq_false_or_eq_true (isAcc r) with hb | hb
        · rw [hb] at HON HNA
          rw [hb]
          clear hb
          obtain ⟨A6, cap6, rfl, hs6, hi6⟩ := own_slice HR.out.acc
          clear hs6 hi6
          have hal := HAL.out
          go_upto_block 64 with fail
          go_loopw [12, 13] (fun sn i wr => ∃ q : Nat, q ≤ s.acc.length ∧ i = .int .i64 q ∧ sn = .bool ((s.acc.take q).contains r.dig) ∧ Hid (RI w u5 (.slice A6 s.acc.length cap6) FX s.acc wr)) (fun _ i _ => s.acc.length - (intOf i).toNat)
          case atStart => exact ⟨0, Nat.zero_le _, rfl, rfl, HR⟩
          case round => as_aux_lemma =>
            obtain ⟨q, hq, rfl, rfl, HR'⟩ := hrel
            rcases Nat.lt_or_ge q s.acc.length with hqlt | hqge
            · obtain ⟨A', cap', hA, hsq, hiq⟩ := own_slice HR'.out.acc
              injection hA with hA1 _ hA2
              subst hA1 hA2
              obtain ⟨bq, oq, rfl, hrq⟩ := hsq.range q hqlt
              have hdall := HDA.out
              rw [flatMap_piece u8s 32 s.acc (fun x hx => by simp [u8s, (hdall x hx).len]) q hqlt] at hrq
              have hdq := hdall _ (List.getElem_mem hqlt)
              have h32q : (u8s s.acc[q]).length = 32 := by simp [u8s, hdq.len]
              have hdg : DigOk r.dig := ⟨HRO.out.dig, HRO.out.bytes⟩
              have h32r : (u8s r.dig).length = 32 := by simp [u8s, hdg.len]
              obtain ⟨_, _, _, _, hrr⟩ := HC.out wr HR'.out.bel
              have heq := run_eqD hdq hdg
              have hud := Tryd.underlying47
              have hua : (Tryd.prog.info? 47).map (·.size) = some (u8s s.acc[q]).length := by rw [h32q]; kernel_rfl
              have hub : (Tryd.prog.info? 47).map (·.size) = some (u8s r.dig).length := by rw [h32r]; kernel_rfl
              have HR1 := Lib.hid hrq
              have HR2 := Lib.hid hrr
              have HSN := Lib.hid (cont_snoc s.acc r.dig q hqlt)
              have hq0 : (0 : Int) ≤ q := by omega
              have hq1 : (q : Int) < s.acc.length := by omega
              clear hrq hrr hsq hiq hdall h32q h32r
              go_upto_region 19 with fail
              rcases Bool.eq_false_or_eq_true ((s.acc.take q).contains r.dig) with t1 | t1
              · rw [t1] at HSN
                rw [t1]
                clear t1
                go_wp2_with fail
                go_quiet (fail)
                go_wp2_with fail
                exact ⟨⟨q + 1, by omega, by go_num, congrArg Value.bool (by rw [HSN.out]; rfl), Lib.hid (HR'.out.drewN _)⟩, by simp [intOf]; omega⟩
              · rw [t1] at HSN
                rw [t1]
                clear t1
                rcases Bool.eq_false_or_eq_true (decide (s.acc[q] = r.dig)) with t2 | t2
                all_goals
                  rw [t2] at heq HSN
                  refine wp_region_quiet_lit (by kernel_rfl) (by kernel_rfl) ?_
                  repeat (first
                    | (refine qLoad 47 (.tmp 74) (by exact rfl) (by exact rfl) (by exact rfl) HR1.out hud rfl hua ?_; simp only [Act.put, List.setIfInBounds_toArray, List.set_cons_zero, List.set_cons_succ])
                    | (refine qLoad 47 (.tmp 79) (by exact rfl) (by exact rfl) (by exact rfl) HR2.out hud rfl hub ?_; simp only [Act.put, List.setIfInBounds_toArray, List.set_cons_zero, List.set_cons_succ])
                    | quiet_step (fail))
                  refine wpQuiet_nil ?_
                  intro w2 hw2
                  obtain ⟨nq, hw3⟩ := hw2
                  subst hw3
                  go_wp2_with fail
                  exact ⟨⟨q + 1, by omega, by go_num, congrArg Value.bool (by rw [HSN.out]; rfl), Lib.hid (HR'.out.drewN _)⟩, by simp [intOf]; omega⟩
            · obtain rfl : q = s.acc.length := by omega
              rw [List.take_length]
              clear HR
              have hszr := HR'.out.bel.size
              have hfc : (findC (1, k)).length = 2 := rfl
              have hfl2 := HFL2.out
              have hdl : (u8s r.dig).length = 32 := by simp [u8s, HRO.out.dig]
              have hdl2 : (u8s r.dig).toArray.size = 32 := by simp [u8s, HRO.out.dig]
              have HDL := Lib.hid hdl
              rcases Bool.eq_false_or_eq_true (s.acc.contains r.dig) with hc | hc
              · rw [hc] at HON
                rw [hc]
                clear hc
                go_wp2_with (first
                  | (at_builtin; refine app tRef (.tmp 84) (.tmp 87) rfl rfl (by rfl) (HR'.out.out.alloc _) (by rfl) (Sn.new wr (findC (1, k)).toArray 33 2 1 rfl) (findC_one _) (by unfold maxLen; omega) (by omega) (by simp; omega) ?_; intro v3 w3 hown hgrow _; rw [List.toList_toArray] at hown; have HN := Lib.hid (HR'.out.add hown hgrow); clear hown hgrow; have HD3 := Lib.hid (HC.out w3 HN.out.bel).2.2.2.2; have hsz3 := HN.out.bel.size)
                  | (refine ld 47 _ rfl rfl rfl HD3.out Tryd.underlying47 rfl (by rw [HDL.out]; kernel_rfl) ?_)
                  | (refine lit1 tDig _ rfl rfl rfl HDL.out (by decide) ?_)
                  | (at_builtin; refine app tDig (.tmp 89) (.tmp 95) rfl rfl (by rfl) (HN.out.acc.alloc _) (by rfl) (Sn.new w3 (u8s r.dig).toArray 47 32 1 hdl2) (by simpa using u8s_mem r.dig) (by unfold maxLen; omega) (by omega) (by simp; omega) ?_; intro v4 w4 hown hgrow _; rw [List.toList_toArray] at hown; have HM := Lib.hid (HN.out.put hown hgrow); clear hown hgrow))
                go_meet
                refine Lib.hid ?_
                rw [HBR.out, HON.out, HNA.out]
                exact HM.out
              · rw [hc] at HON
                rw [hc]
                clear hc
                have HD3 := Lib.hid (HC.out wr HR'.out.bel).2.2.2.2
                go_wp2_with (first
                  | (refine ld 47 _ rfl rfl rfl HD3.out Tryd.underlying47 rfl (by rw [HDL.out]; kernel_rfl) ?_)
                  | (refine lit1 tDig _ rfl rfl rfl HDL.out (by decide) ?_)
                  | (at_builtin; refine app tDig (.tmp 89) (.tmp 95) rfl rfl (by rfl) (HR'.out.acc.alloc _) (by rfl) (Sn.new wr (u8s r.dig).toArray 47 32 1 hdl2) (by simpa using u8s_mem r.dig) (by unfold maxLen; omega) (by omega) (by simp; omega) ?_; intro v4 w4 hown hgrow _; rw [List.toList_toArray] at hown; have HM := Lib.hid (HR'.out.put hown hgrow); clear hown hgrow))
                go_meet
                refine Lib.hid ?_
                rw [HBR.out, HON.out, HNA.out]
                simpa using HM.out
        · rw [hb] at HON HNA
          rw [hb]
          clear hb
          go_wp2_with fail
          go_meet
          refine Lib.hid ?_
          rw [HBR.out, HON.out, HNA.out]
          simpa using HR.out
      case rest => as_aux_lemma =>
      have HR := hcut
      clear hcut
      -- rule quarantine
      go_upto_region 23 with fail
      go_cut [126] from 14 to 207 (fun c wx => c = .bool (ruleB 2 V) ∧ Hid (RI w u5 u6 (FK ++ brk k V 0 2) (nxt s r).acc wx))
      case first => as_aux_lemma =>
        obtain ⟨c0, c1, c2, c3, _⟩ := HC.out wc HR.out.bel
        have HR0 : Hid (RI w u5 u6 (FK ++ brk k V 0 2) (nxt s r).acc wc) := Lib.hid (HR.out)
        obtain ⟨e7, z, e8, hz1, hz2⟩ := HBU.out
        obtain ⟨BO, hBO⟩ : ∃ BO, s.booted = BO := ⟨_, rfl⟩
        have HQ : Hid (ruleB 2 V = (K && ((decide (8 ≤ r.code) && decide (r.code ≤ 10)) && (!BO || decide (r.now ≤ z))))) := Lib.hid (by rw [HVS.out]; exact quar_eq skew s r z BO K HK.out hBO hz2)
        rw [hBO] at e7
        subst e7 e8
        have HBO := Lib.hid hBO
        clear hBO hz2 HBU
        cases K
        · have HVF : Hid (false = ruleB 2 V) := Lib.hid (by rw [HQ.out]; rfl)
          go_wp2_with fail
          go_meet
          exact ⟨congrArg Value.bool (HVF.out), HR0⟩
        · rcases Bool.eq_false_or_eq_true (decide (8 ≤ r.code)) with t1 | t1
          · rcases Bool.eq_false_or_eq_true (decide (r.code ≤ 10)) with t2 | t2
            · cases BO
              · have HVF : Hid (true = ruleB 2 V) := Lib.hid (by rw [HQ.out, t1, t2]; rfl)
                go_wp2_with fail
                go_meet
                exact ⟨congrArg Value.bool (HVF.out), HR0⟩
              · rcases Bool.eq_false_or_eq_true (decide (r.now ≤ z)) with t3 | t3
                · have HVF : Hid (true = ruleB 2 V) := Lib.hid (by rw [HQ.out, t1, t2, t3]; rfl)
                  go_wp2_with fail
                  go_meet
                  exact ⟨congrArg Value.bool (HVF.out), HR0⟩
                · have HVF : Hid (false = ruleB 2 V) := Lib.hid (by rw [HQ.out, t1, t2, t3]; rfl)
                  go_wp2_with fail
                  go_meet
                  exact ⟨congrArg Value.bool (HVF.out), HR0⟩
            · have HVF : Hid (false = ruleB 2 V) := Lib.hid (by rw [HQ.out, t1, t2]; rfl)
              go_wp2_with fail
              go_meet
              exact ⟨congrArg Value.bool (HVF.out), HR0⟩
          · have HVF : Hid (false = ruleB 2 V) := Lib.hid (by rw [HQ.out, t1]; rfl)
            go_wp2_with fail
            go_meet
            exact ⟨congrArg Value.bool (HVF.out), HR0⟩
      case rest => as_aux_lemma =>
      obtain ⟨rfl, HR'⟩ := hcut
      clear HR
      go_upto_if 126 with fail
      go_cut [5] from 14 to 207 (fun m wx => Hid (RI w m u6 (FK ++ brk k V 0 3) (nxt s r).acc wx))
      case first => as_aux_lemma =>
        have hszc := HR'.out.bel.size
        have hfc : (findC (2, k)).length = 2 := rfl
        have hfl2 : (FK ++ brk k V 0 2).length ≤ 310 := by have := HFL.out; have := brk_len k V 2; rw [List.length_append]; omega
        obtain ⟨FX, hFX⟩ : ∃ FX, FX = FK ++ brk k V 0 2 := ⟨_, rfl⟩
        rw [← hFX] at HR' hfl2
        have HFX := Lib.hid hFX
        clear hFX
        rcases Bool.eq_false_or_eq_true (ruleB 2 V) with hb | hb
        · have HB := Lib.hid hb
          rw [hb]
          clear hb
          go_wp2_with (at_builtin; refine app tRef (.tmp 127) (.tmp 130) rfl rfl (by rfl) (HR'.out.out.alloc _) (by rfl) (Sn.new wc (findC (2, k)).toArray 33 2 1 rfl) (findC_one _) (by unfold maxLen; omega) (by omega) (by simp; omega) ?_; intro v3 w3 hown hgrow _; rw [List.toList_toArray] at hown; have HN := Lib.hid (HR'.out.add hown hgrow); clear hown hgrow)
          go_meet
          refine Lib.hid ?_
          rw [show brk k V 0 3 = brk k V 0 2 ++ [(2, k)] by rw [show 3 = 2 + 1 from rfl, brk_succ, if_pos HB.out], ← List.append_assoc, ← HFX.out]
          exact HN.out
        · have HB := Lib.hid hb
          rw [hb]
          clear hb
          go_wp2_with fail
          go_meet
          refine Lib.hid ?_
          rw [show brk k V 0 3 = brk k V 0 2 by rw [show 3 = 2 + 1 from rfl, brk_succ, if_neg (by rw [HB.out]; exact Bool.false_ne_true), List.append_nil], ← HFX.out]
          exact HR'.out
      case rest => as_aux_lemma =>
      have HR := hcut
      clear HR' hcut
      -- rule quiet
      go_upto_region 25 with fail
      go_cut [157] from 14 to 207 (fun c wx => c = .bool (ruleB 3 V) ∧ Hid (RI w u5 u6 (FK ++ brk k V 0 3) (nxt s r).acc wx))
      case first => as_aux_lemma =>
        obtain ⟨c0, c1, c2, c3, _⟩ := HC.out wc HR.out.bel
        have HR0 : Hid (RI w u5 u6 (FK ++ brk k V 0 3) (nxt s r).acc wc) := Lib.hid (HR.out)
        have HQ : Hid (ruleB 3 V = (K && (decide (1 ≤ r.code) && (decide (r.code ≤ 8) && (r.live != s.live))))) := Lib.hid (by rw [HVS.out, ← HK.out]; rfl)
        cases K
        · have HVF : Hid (false = ruleB 3 V) := Lib.hid (by rw [HQ.out]; rfl)
          go_wp2_with fail
          go_meet
          exact ⟨congrArg Value.bool (HVF.out), HR0⟩
        · rcases Bool.eq_false_or_eq_true (decide (1 ≤ r.code)) with t1 | t1
          · rcases Bool.eq_false_or_eq_true (decide (r.code ≤ 8)) with t2 | t2
            · · have HVF : Hid ((r.live != s.live) = ruleB 3 V) := Lib.hid (by rw [HQ.out, t1, t2]; rfl)
                go_wp2_with fail
                go_meet
                exact ⟨congrArg Value.bool (HVF.out), HR0⟩
            · have HVF : Hid (false = ruleB 3 V) := Lib.hid (by rw [HQ.out, t1, t2]; rfl)
              go_wp2_with fail
              go_meet
              exact ⟨congrArg Value.bool (HVF.out), HR0⟩
          · have HVF : Hid (false = ruleB 3 V) := Lib.hid (by rw [HQ.out, t1]; rfl)
            go_wp2_with fail
            go_meet
            exact ⟨congrArg Value.bool (HVF.out), HR0⟩
      case rest => as_aux_lemma =>
      obtain ⟨rfl, HR'⟩ := hcut
      clear HR
      go_upto_if 157 with fail
      go_cut [5] from 14 to 207 (fun m wx => Hid (RI w m u6 (FK ++ brk k V 0 4) (nxt s r).acc wx))
      case first => as_aux_lemma =>
        have hszc := HR'.out.bel.size
        have hfc : (findC (3, k)).length = 2 := rfl
        have hfl2 : (FK ++ brk k V 0 3).length ≤ 310 := by have := HFL.out; have := brk_len k V 3; rw [List.length_append]; omega
        obtain ⟨FX, hFX⟩ : ∃ FX, FX = FK ++ brk k V 0 3 := ⟨_, rfl⟩
        rw [← hFX] at HR' hfl2
        have HFX := Lib.hid hFX
        clear hFX
        rcases Bool.eq_false_or_eq_true (ruleB 3 V) with hb | hb
        · have HB := Lib.hid hb
          rw [hb]
          clear hb
          go_wp2_with (at_builtin; refine app tRef (.tmp 158) (.tmp 161) rfl rfl (by rfl) (HR'.out.out.alloc _) (by rfl) (Sn.new wc (findC (3, k)).toArray 33 2 1 rfl) (findC_one _) (by unfold maxLen; omega) (by omega) (by simp; omega) ?_; intro v3 w3 hown hgrow _; rw [List.toList_toArray] at hown; have HN := Lib.hid (HR'.out.add hown hgrow); clear hown hgrow)
          go_meet
          refine Lib.hid ?_
          rw [show brk k V 0 4 = brk k V 0 3 ++ [(3, k)] by rw [show 4 = 3 + 1 from rfl, brk_succ, if_pos HB.out], ← List.append_assoc, ← HFX.out]
          exact HN.out
        · have HB := Lib.hid hb
          rw [hb]
          clear hb
          go_wp2_with fail
          go_meet
          refine Lib.hid ?_
          rw [show brk k V 0 4 = brk k V 0 3 by rw [show 4 = 3 + 1 from rfl, brk_succ, if_neg (by rw [HB.out]; exact Bool.false_ne_true), List.append_nil], ← HFX.out]
          exact HR'.out
      case rest => as_aux_lemma =>
      have HR := hcut
      clear HR' hcut
      -- rule growth
      go_upto_region 27 with fail
      go_cut [181] from 14 to 207 (fun c wx => c = .bool (ruleB 4 V) ∧ Hid (RI w u5 u6 (FK ++ brk k V 0 4) (nxt s r).acc wx))
      case first => as_aux_lemma =>
        obtain ⟨c0, c1, c2, c3, _⟩ := HC.out wc HR.out.bel
        have HR0 : Hid (RI w u5 u6 (FK ++ brk k V 0 4) (nxt s r).acc wc) := Lib.hid (HR.out)
        have HQ : Hid (ruleB 4 V = (K && ((r.code == 10) && (r.live != s.live + 1)))) := Lib.hid (by rw [HVS.out]; exact grow_eq skew s r K HK.out HF.out.2.2)
        have y1 : IntKind.i64.wrap (s.live + 1) = s.live + 1 := IntWalk.i64_in _ (by have := HF.out.2.2; omega)
        cases K
        · have HVF : Hid (false = ruleB 4 V) := Lib.hid (by rw [HQ.out]; rfl)
          go_wp2_with fail
          go_meet
          exact ⟨congrArg Value.bool (HVF.out), HR0⟩
        · rcases Bool.eq_false_or_eq_true (r.code == 10) with t1 | t1
          · · have HVF : Hid ((r.live != s.live + 1) = ruleB 4 V) := Lib.hid (by rw [HQ.out, t1]; rfl)
              go_wp2_with fail
              go_meet
              exact ⟨congrArg Value.bool (HVF.out), HR0⟩
          · have HVF : Hid (false = ruleB 4 V) := Lib.hid (by rw [HQ.out, t1]; rfl)
            go_wp2_with fail
            go_meet
            exact ⟨congrArg Value.bool (HVF.out), HR0⟩
      case rest => as_aux_lemma =>
      obtain ⟨rfl, HR'⟩ := hcut
      clear HR
      go_upto_if 181 with fail
      go_cut [5] from 14 to 207 (fun m wx => Hid (RI w m u6 (FK ++ brk k V 0 5) (nxt s r).acc wx))
      case first => as_aux_lemma =>
        have hszc := HR'.out.bel.size
        have hfc : (findC (4, k)).length = 2 := rfl
        have hfl2 : (FK ++ brk k V 0 4).length ≤ 310 := by have := HFL.out; have := brk_len k V 4; rw [List.length_append]; omega
        obtain ⟨FX, hFX⟩ : ∃ FX, FX = FK ++ brk k V 0 4 := ⟨_, rfl⟩
        rw [← hFX] at HR' hfl2
        have HFX := Lib.hid hFX
        clear hFX
        rcases Bool.eq_false_or_eq_true (ruleB 4 V) with hb | hb
        · have HB := Lib.hid hb
          rw [hb]
          clear hb
          go_wp2_with (at_builtin; refine app tRef (.tmp 182) (.tmp 185) rfl rfl (by rfl) (HR'.out.out.alloc _) (by rfl) (Sn.new wc (findC (4, k)).toArray 33 2 1 rfl) (findC_one _) (by unfold maxLen; omega) (by omega) (by simp; omega) ?_; intro v3 w3 hown hgrow _; rw [List.toList_toArray] at hown; have HN := Lib.hid (HR'.out.add hown hgrow); clear hown hgrow)
          go_meet
          refine Lib.hid ?_
          rw [show brk k V 0 5 = brk k V 0 4 ++ [(4, k)] by rw [show 5 = 4 + 1 from rfl, brk_succ, if_pos HB.out], ← List.append_assoc, ← HFX.out]
          exact HN.out
        · have HB := Lib.hid hb
          rw [hb]
          clear hb
          go_wp2_with fail
          go_meet
          refine Lib.hid ?_
          rw [show brk k V 0 5 = brk k V 0 4 by rw [show 5 = 4 + 1 from rfl, brk_succ, if_neg (by rw [HB.out]; exact Bool.false_ne_true), List.append_nil], ← HFX.out]
          exact HR'.out
      case rest => as_aux_lemma =>
      have HR := hcut
      clear HR' hcut
      -- the boot row
      obtain ⟨c0, c1, c2, c3, _⟩ := HC.out wc HR.out.bel
      go_upto_region 29 with fail
      go_cut [200] from 14 to 207 (fun c wx => c = .bool (isBoot r) ∧ wx = wc)
      case first => as_aux_lemma =>
        rcases Bool.eq_false_or_eq_true (r.kind == 2) with t1 | t1 <;> rcases Bool.eq_false_or_eq_true (r.code == 0) with t2 | t2
        all_goals
          have HVF : Hid (((r.kind == 2) && (r.code == 0)) = isBoot r) := Lib.hid rfl
          rw [t1, t2] at HVF
          go_wp2_with fail
          go_meet
          exact ⟨congrArg Value.bool HVF.out, by trivial⟩
      case rest => as_aux_lemma =>
      obtain ⟨rfl, rfl⟩ := hcut
      clear c0 c1 c2 c3
      go_upto_if 200 with fail
      obtain ⟨_, _, c2, _, _⟩ := HC.out wc HR.out.bel
      have HN : Hid (nxt s r = { first := false, now := r.now, live := r.live, acc := if isAcc r then s.acc ++ [r.dig] else s.acc, booted := s.booted || isBoot r, boot := if isBoot r then r.now else s.boot }) := Lib.hid rfl
      have HRN : Hid (RI w u5 u6 (findK skew l (k + 1)) (stAt l (k + 1)).acc wc) := Lib.hid (by
        rw [stAt_succ l k hlt, ← HRr.out, ← HSt.out, findK_succ skew l k hlt, ← HV.out, ← HFK.out]
        exact HR.out)
      have HSN : Hid (stAt l (k + 1) = nxt s r) := Lib.hid (by rw [stAt_succ l k hlt, ← HRr.out, ← HSt.out])
      rcases Bool.eq_false_or_eq_true (isBoot r) with hb | hb
      · have HB := Lib.hid hb
        rw [hb]
        clear hb
        have hin := HRO.out.now
        have hsk := HSK.out
        go_wp2_with (go_at_call 20; refine (ref_add_any _ _ _ hin hsk).mono ?_; rintro e w' ⟨rfl, rfl⟩)
        refine ⟨⟨k + 1, hlt, by go_num, Lib.hid ?_, HRN⟩, by simp [intOf]; omega⟩
        rw [HSN.out]
        refine ⟨?_, _, rfl, addS_i64 _ _, ?_⟩
        · rw [HN.out, HB.out]; simp
        · rw [HN.out, HB.out]; simp
      · have HB := Lib.hid hb
        rw [hb]
        clear hb
        go_wp2_with fail
        refine ⟨⟨k + 1, hlt, by go_num, Lib.hid ?_, HRN⟩, by simp [intOf]; omega⟩
        rw [HSN.out]
        have h := HBU.out
        unfold BU at h ⊢
        rw [HN.out, HB.out]
        simpa using h
    · obtain rfl : k = l.length := by omega
      go_wp2_with fail
      have HX : Hid (RI w u5 u6 (findL skew l) (stAt l l.length).acc wr) := HR
      go_ret
      exact ⟨_, rfl, HX.out.out, HX.out.bel⟩
end Go.Proofs.YtmhckcghfikeiaaDoor
