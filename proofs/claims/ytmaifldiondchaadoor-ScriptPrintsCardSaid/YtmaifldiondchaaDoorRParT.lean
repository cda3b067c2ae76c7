/- The reference's Parse. -/
import Derived.Test.YtmaifldiondchaaDoorRPar
import Derived.Test.YtmaifldiondchaaDoorLen24
namespace Go.Proofs.YtmaifldiondchaaDoor
open Go.RowKit
attribute [local irreducible] wpAnyH wpQuiet
set_option linter.unusedSimpArgs false

/-- The operations read so far. -/
structure RT (w : World) (v : Value) (R : List OpR) (wr : World) : Prop where
  own : wr.ownsRow w.heap.size 26 4 v R.length (R.flatMap opC)
  ops : ∀ x ∈ R, OpI wr x
  sep : ∀ x ∈ R, (∀ b off, x.A = some ⟨b, off, none⟩ → b < wr.heap.size ∧ v.ownBlock ≠ some b) ∧ (∀ b off, x.B = some ⟨b, off, none⟩ → b < wr.heap.size ∧ v.ownBlock ≠ some b)
  bel : Below w.heap.size w wr
theorem RT.below {w : World} {v : Value} {R : List OpR} {wr w' : World} (h : RT w v R wr) (hb : Below wr.heap.size wr w') : RT w v R w' :=
  ⟨own_below h.own hb, fun x hx => (h.ops x hx).below hb, fun x hx => ⟨fun b off e => ⟨Nat.lt_of_lt_of_le ((h.sep x hx).1 b off e).1 hb.size, ((h.sep x hx).1 b off e).2⟩, fun b off e => ⟨Nat.lt_of_lt_of_le ((h.sep x hx).2 b off e).1 hb.size, ((h.sep x hx).2 b off e).2⟩⟩, bstep h.bel hb⟩
theorem RT.push {w : World} {v : Value} {R : List OpR} {W W3 : World} (h : RT w v R W) {x : OpR} {v' : Value} (hx : OpI W x)
    (hA : ∀ b off, x.A = some ⟨b, off, none⟩ → b < W.heap.size ∧ v.ownBlock ≠ some b) (hB : ∀ b off, x.B = some ⟨b, off, none⟩ → b < W.heap.size ∧ v.ownBlock ≠ some b)
    (hown : W3.ownsRow w.heap.size 26 4 v' (R.length + 1) (R.flatMap opC ++ opC x)) (hgr : W.grownBy W3 v.ownBlock) (hblk : v'.ownBlock = v.ownBlock ∨ v'.ownBlock = some W.heap.size) : RT w v' (R ++ [x]) W3 := by
  have key : ∀ y : OpR, OpI W y → (∀ b off, y.A = some ⟨b, off, none⟩ → b < W.heap.size ∧ v.ownBlock ≠ some b) → (∀ b off, y.B = some ⟨b, off, none⟩ → b < W.heap.size ∧ v.ownBlock ≠ some b) → OpI W3 y := fun y hy h1 h2 =>
    ⟨hy.1.blks fun b off e hlt => hgr.block b hlt (fun e' => (h1 b off e).2 e'.symm), hy.2.blks fun b off e hlt => hgr.block b hlt (fun e' => (h2 b off e).2 e'.symm)⟩
  have sp : ∀ b, b < W.heap.size ∧ v.ownBlock ≠ some b → b < W3.heap.size ∧ v'.ownBlock ≠ some b := fun b hb => ⟨Nat.lt_of_lt_of_le hb.1 hgr.size, by
    rcases hblk with e | e
    · rw [e]; exact hb.2
    · rw [e]; intro e'; have := Option.some.inj e'; omega⟩
  refine ⟨by rw [List.length_append, List.flatMap_append, List.flatMap_singleton]; exact hown, fun y hy => ?_, fun y hy => ?_, h.bel.grown hgr h.bel.size (fun g hg => (h.own.lt g hg).1)⟩
  · rw [List.mem_append, List.mem_singleton] at hy
    rcases hy with hy | rfl
    · exact key y (h.ops y hy) (h.sep y hy).1 (h.sep y hy).2
    · exact key y hx hA hB
  · rw [List.mem_append, List.mem_singleton] at hy
    rcases hy with hy | rfl
    · exact ⟨fun b off e => sp b ((h.sep y hy).1 b off e), fun b off e => sp b ((h.sep y hy).2 b off e)⟩
    · exact ⟨fun b off e => sp b (hA b off e), fun b off e => sp b (hB b off e)⟩
theorem opsOf_snoc (R : List OpR) (x : OpR) : opsOf (R ++ [x]) = opsOf R ++ [x.o] := by simp [opsOf]

set_option maxRecDepth 100000 in
set_option maxHeartbeats 8000000 in
theorem refParseT_any (s : Bs) (w : World) (hs : s.length ≤ 10000000) :
    Calls Tryd.prog 20 #[.string (SB s)] w fun e w' => Below w.heap.size w w' ∧ ∃ v, e = .returned (.tuple #[v, .int .i64 ((parseT s).1 : Int)]) ∧ (((parseT s).1 = 0 ∧ ∃ R : List OpR, opsOf R = (parseT s).2 ∧ w'.ownsRow w.heap.size 26 4 v R.length (R.flatMap opC) ∧ ∀ x ∈ R, OpI w' x) ∨ (1 ≤ (parseT s).1 ∧ v = .slice none 0 0)) := by
  have HIX := Lib.hid (idx_at s)
  have HCUT := Lib.hid (cut_run s)
  have HTO := Lib.hid (fun (t : Bs) (ht : t.length ≤ s.length) w1 => refParse_any t w1 (by omega))
  have hzr : ∀ w, (zeroValue 26).run Tryd.prog w = .ok (.agg opZ) w := fun w => by kernel_rfl
  have HZR := Lib.hid hzr
  clear hzr
  obtain ⟨S, hS⟩ : ∃ S, S = SB s := ⟨_, rfl⟩
  have hsz : S.size = s.length := by rw [hS, SB_size]
  rw [← hS] at HIX HCUT ⊢
  clear hS
  go_enter Tryd.func20, Tryd.ntmps20
  go_wp2_with fail
  go_loopw [4, 5, 6, 7] (fun out nv fr i wr => ∃ (k f n : Nat) (R : List OpR) (A4 : Option Addr) (c4 : Nat), f ≤ k ∧ k ≤ s.length ∧ out = .slice A4 R.length c4 ∧ nv = .int .i64 (n : Int) ∧ fr = .int .i64 (f : Int) ∧ i = .int .i64 (k : Int) ∧ n ≤ f ∧ R.length ≤ n ∧ Hid (RT w (.slice A4 R.length c4) R wr) ∧ Hid (parseT s = runT (split 10 (s.drop f)) n (opsOf R)) ∧ Hid (∀ j, f ≤ j → j < k → s[j]? ≠ some 10)) (fun _ _ _ i _ => s.length - (intOf i).toNat)
  case atStart => exact ⟨0, 0, 0, [], none, 0, Nat.le_refl _, Nat.zero_le _, rfl, rfl, rfl, rfl, Nat.le_refl _, Nat.le_refl _, Lib.hid ⟨World.ownsRow_nil _ _ _ _, (fun _ h => by cases h), (fun _ h => by cases h), Below.refl _ _⟩, Lib.hid rfl, Lib.hid (fun j h1 h2 => by omega)⟩
  case round =>
    obtain ⟨k, f, n, R, A4, c4, hfk, hk, rfl, rfl, rfl, rfl, hnf, hRn, HR, HP, HN⟩ := hrel
    have hszr := HR.out.bel.size
    rcases Nat.lt_or_ge k s.length with hlt | hge
    · have hi := HIX.out k hlt
      obtain ⟨z, hz⟩ : ∃ z, z = s[k].toNat := ⟨_, rfl⟩
      have hzl : z < 256 := by rw [hz]; exact UInt8.toNat_lt s[k]
      rw [← hz] at hi
      rcases Bool.eq_false_or_eq_true (((z : Int)) != 10) with t1 | t1
      · have HN2 : Hid (∀ j, f ≤ j → j < k + 1 → s[j]? ≠ some 10) := Lib.hid (fun j h1 h2 => by
          by_cases h : j < k
          · exact HN.out j h1 h
          · obtain rfl : j = k := by omega
            rw [List.getElem?_eq_getElem hlt]
            intro e
            have e := Option.some.inj e
            rw [hz, e] at t1
            exact absurd t1 (by decide))
        clear hz
        go_wp2_with fail
        exact ⟨⟨k + 1, f, n, R, A4, c4, by omega, by omega, rfl, rfl, rfl, by go_num, hnf, hRn, HR, HP, HN2⟩, by simp [intOf]; omega⟩
      · have hc : s[k] = 10 := UInt8.toNat_inj.1 (by have h1 := bne_eq_false_iff_eq.1 t1; have : (10 : UInt8).toNat = 10 := rfl; omega)
        have HP2 : Hid (parseT s = runT ((s.drop f).take (k - f) :: split 10 (s.drop (k + 1))) n (opsOf R)) := Lib.hid (by rw [HP.out, split_at 10 hfk hlt HN.out hc])
        have HNE := Lib.hid (split_ne 10 (s.drop (k + 1)))
        have hcut := HCUT.out f k hfk hk
        have hpl : ((s.drop f).take (k - f)).length ≤ s.length := by simp; omega
        obtain ⟨p, hp⟩ : ∃ p, p = (s.drop f).take (k - f) := ⟨_, rfl⟩
        rw [← hp] at HP2 hcut hpl
        clear hz hc hp
        have HSK : Hid (skipL p = true → parseT s = runT (split 10 (s.drop (k + 1))) (n + 1) (opsOf R)) := Lib.hid (fun h => by rw [HP2.out, runT_skip _ _ _ h HNE.out])
        have hkn : (n : Int) + 1 ≤ 10000001 := by omega
        by_cases hpe : p = []
        · have HF := Lib.hid (HSK.out (by rw [hpe]; rfl))
          have hcut2 : ∀ w, (Instr.sliceAt 9 (.string S) (some (.int .i64 (f : Int))) (some (.int .i64 (k : Int))) none).run Tryd.prog w = .ok (.string ⟨#[]⟩) w := by rw [hpe] at hcut; exact hcut
          clear hcut hpe
          go_wp2_with fail
          exact ⟨⟨k + 1, k + 1, n + 1, R, A4, c4, by omega, by omega, rfl, by go_num, by go_num, by go_num, by omega, by omega, HR, HF, Lib.hid (fun j h1 h2 => by omega)⟩, by simp [intOf]; omega⟩
        have HIP := Lib.hid (idx_at p)
        have hp0 : 0 < p.length := List.length_pos_iff.2 hpe
        have hh : p.head? = some (p[0]'hp0) := by rw [List.head?_eq_getElem?, List.getElem?_eq_getElem]
        have hemp : p.isEmpty = false := by simpa using hpe
        obtain ⟨q0, hq0⟩ : ∃ q0, q0 = p[0]'hp0 := ⟨_, rfl⟩
        have hip : ∀ w, (Instr.index 9 (.string (SB p)) (.int .i64 0)).run Tryd.prog w = .ok (.int .u8 (q0.toNat : Int)) w := fun w => by rw [hq0]; exact HIP.out 0 hp0 w
        rw [← hq0] at hh
        obtain ⟨z0, hz0⟩ : ∃ z0, z0 = q0.toNat := ⟨_, rfl⟩
        rw [← hz0] at hip
        have HSKE : Hid (skipL p = ((z0 : Int) == 35)) := Lib.hid (by
          unfold skipL
          rw [hemp, hh, Bool.false_or, Bool.eq_iff_iff]
          simp only [beq_iff_eq, Option.some.injEq]
          rw [hz0]
          constructor
          · rintro rfl; rfl
          · intro h; exact UInt8.toNat_inj.1 (by have : (35 : UInt8).toNat = 35 := rfl; omega))
        have HTP := Lib.hid (HTO.out p hpl)
        obtain ⟨P, hP⟩ : ∃ P, P = SB p := ⟨_, rfl⟩
        have hPs : P.toList.isEmpty = false := SB_nonempty (fun e => hpe (by
          have h1 : P.size = 0 := by rw [e]; rfl
          rw [hP, SB_size] at h1
          exact List.length_eq_zero_iff.1 h1))
        rw [← hP] at hcut hip HTP
        clear hP hz0 hq0 hh hemp hp0 hpe
        rcases Bool.eq_false_or_eq_true ((z0 : Int) == 35) with t2 | t2
        · have HF := Lib.hid (HSK.out (by rw [HSKE.out, t2]))
          go_wp2_with fail
          exact ⟨⟨k + 1, k + 1, n + 1, R, A4, c4, by omega, by omega, rfl, by go_num, by go_num, by go_num, by omega, by omega, HR, HF, Lib.hid (fun j h1 h2 => by omega)⟩, by simp [intOf]; omega⟩
        have hns : skipL p = false := by rw [HSKE.out, t2]
        cases hpp : parseL p with
        | none =>
          rw [hpp] at HTP
          have HF : Hid (parseT s = (n + 1, [])) := Lib.hid (by rw [HP2.out, runT_none _ _ _ hns HNE.out hpp])
          clear hns hpp
          go_wp2_with (first
            | (go_at_call 10; refine (HTP.out _).mono ?_; rintro e w2 ⟨v2, rfl, hv2, hb2⟩; obtain ⟨Ax, ca, Bx, cb, rfl, sx, sy, nx, ny⟩ := hv2; have HB2 := Lib.hid hb2; clear sx sy nx ny hb2)
            | (refine al 26 _ rfl rfl HZR.out ?_)
            | (refine stNew (cells := #[.int .i64 0, .int .i64 0, .slice Ax 0 ca, .slice Bx 0 cb]) 26 (.tmp 9) (.tmp 39) rfl rfl (by rfl) (by rfl) (by kernel_rfl) (by rfl) (opRow_one _ _ _ _ _ _ _ _) ?_; intro w3 hK hb3 hz3; have HB3 := Lib.hid hb3; clear hK hb3 hz3))
          go_ret2
          exact ⟨bstep (bstep HR.out.bel HB2.out) HB3.out, _, by rw [HF.out]; rfl, .inr ⟨by rw [HF.out]; omega, rfl⟩⟩
        | some o =>
          rw [hpp] at HTP
          have hol := parse_len hpp
          have HF : Hid (parseT s = runT (split 10 (s.drop (k + 1))) (n + 1) (opsOf R ++ [o])) := Lib.hid (by rw [HP2.out, runT_some _ _ _ hns HNE.out hpp])
          clear hns hpp
          obtain ⟨ok, on, od, oc⟩ := o
          simp only at hol
          go_wp2_with fail
          refine (HTP.out _).mono ?_
          rintro e w2 ⟨v2, rfl, hv2, hb2⟩
          obtain ⟨Ax, ca, Bx, cb, rfl, sx, sy, nx, ny⟩ := hv2
          have HB2 := Lib.hid hb2
          have HSX := Lib.hid sx
          have HSY := Lib.hid sy
          have HNX := Lib.hid nx
          have HNY := Lib.hid ny
          have HR2 := Lib.hid (HR.out.below hb2)
          clear sx sy nx ny hb2 hi hip hcut hPs t1 t2
          obtain ⟨xo, hxo⟩ : ∃ xo, xo = OpR.mk ⟨ok, on, od, oc⟩ Ax ca Bx cb := ⟨_, rfl⟩
          have HXC : Hid (opC xo = [.int .i64 ok, .int .i64 on, .slice Ax od.length ca, .slice Bx oc.length cb]) := Lib.hid (by rw [hxo]; rfl)
          have HXO : Hid (xo.o = ⟨ok, on, od, oc⟩) := Lib.hid (by rw [hxo])
          have HXI : Hid (OpI w2 xo ∧ (∀ b off, xo.A = some ⟨b, off, none⟩ → wr.heap.size ≤ b ∧ b < w2.heap.size) ∧ (∀ b off, xo.B = some ⟨b, off, none⟩ → wr.heap.size ≤ b ∧ b < w2.heap.size)) := Lib.hid (by rw [hxo]; exact ⟨⟨HSX.out, HSY.out⟩, HNX.out, HNY.out⟩)
          clear hxo HSX HSY HNX HNY
          go_upto_region 15 with (first
            | (refine al 26 _ rfl rfl HZR.out ?_)
            | (refine stNew (cells := #[.int .i64 ok, .int .i64 on, .slice Ax od.length ca, .slice Bx oc.length cb]) 26 (.tmp 9) (.tmp 39) rfl rfl (by rfl) (by rfl) (by kernel_rfl) (by rfl) (opRow_one _ _ _ _ _ _ _ _) ?_; intro w3 hK hb3 hz3; have HK3 := Lib.hid (show Blk w3 w2.heap.size 26 #[.int .i64 ok, .int .i64 on, .slice Ax od.length ca, .slice Bx oc.length cb] from hK); have HRG3 := Lib.hid HK3.out.range; have HB3 := Lib.hid hb3; have HR3 := Lib.hid (HR2.out.below hb3); clear hK hb3 hz3))
          have HBLT : Hid (∀ b, (Value.slice A4 R.length c4).ownBlock = some b → b < wr.heap.size) := Lib.hid (fun b e => (HR.out.own.lt b e).2)
          have hwR : R.length ≤ 10000000 := by omega
          go_wp2_with (first
            | (refine ld (cs := [.int .i64 ok, .int .i64 on, .slice Ax od.length ca, .slice Bx oc.length cb]) 26 (.tmp 9) rfl rfl (by rfl) HRG3.out Tryd.underlying26 rfl (by kernel_rfl) ?_)
            | (at_builtin; refine app tOps (.tmp 44) (.tmp 46) rfl rfl (by rfl) (World.ownsRow.alloc HR3.out.own _) (by rfl) (Sn.new w3 (#[.int .i64 ok, .int .i64 on, .slice Ax od.length ca, .slice Bx oc.length cb] : Array Value) 26 4 1 rfl) (by intro u hu; simp at hu; rcases hu with rfl | rfl | rfl | rfl <;> rfl) (by unfold maxLen; omega) (by omega) (by have := HR3.out.bel.size; simp; omega) ?_; intro v4 w4 hown hgrow hblk; obtain ⟨a4, q4, hv4, _, _⟩ := own_sn hown; subst hv4; have HO4 := Lib.hid hown; have HG4 := Lib.hid hgrow; have HL4 := Lib.hid hblk; clear hown hgrow hblk))
          have HPU : Hid (RT w (.slice a4 (R.length + 1) q4) (R ++ [xo]) w4) := Lib.hid ((HR3.out.below (bel1 w3 (.cells #[.int .i64 ok, .int .i64 on, .slice Ax od.length ca, .slice Bx oc.length cb] 26))).push ((HXI.out.1.below HB3.out).below (bel1 _ _)) (fun b off e => by have h1 := HXI.out.2.1 b off e; have h2 := HB3.out.size; refine ⟨by simp; omega, fun e2 => ?_⟩; have := HBLT.out b e2; omega) (fun b off e => by have h1 := HXI.out.2.2 b off e; have h2 := HB3.out.size; refine ⟨by simp; omega, fun e2 => ?_⟩; have := HBLT.out b e2; omega) (by rw [HXC.out]; exact HO4.out) HG4.out HL4.out)
          exact ⟨⟨k + 1, k + 1, n + 1, R ++ [xo], a4, q4, by omega, by omega, by rw [List.length_append]; rfl, by go_num, by go_num, by go_num, by omega, by simp; omega, by rw [List.length_append]; exact HPU, Lib.hid (by rw [HF.out, opsOf_snoc, HXO.out]), Lib.hid (fun j h1 h2 => by omega)⟩, by simp [intOf]; omega⟩
    · obtain rfl : k = s.length := by omega
      have HPE : Hid (parseT s = if (s.drop f).isEmpty then (0, opsOf R) else (n + 1, [])) := Lib.hid (by rw [HP.out, split_end 10 hfk HN.out, runT_last])
      rcases Nat.lt_or_ge f s.length with h1 | h1
      · have HF : Hid (parseT s = (n + 1, [])) := Lib.hid (by rw [HPE.out, if_neg]; simp; omega)
        have hn2 : (n : Int) + 1 ≤ 10000001 := by omega
        go_wp2_with fail
        go_ret2
        exact ⟨HR.out.bel, _, by rw [HF.out]; rfl, .inr ⟨by rw [HF.out]; omega, rfl⟩⟩
      · have HF : Hid (parseT s = (0, opsOf R)) := Lib.hid (by rw [HPE.out, if_pos]; simp; omega)
        have t5 : decide ((f : Int) < (s.length : Int)) = false := by simp; omega
        have t6 : decide (f < s.length) = false := by simp; omega
        go_wp2_with fail
        go_ret2
        exact ⟨HR.out.bel, _, by rw [HF.out]; rfl, .inl ⟨by rw [HF.out], R, by rw [HF.out], HR.out.own, HR.out.ops⟩⟩
end Go.Proofs.YtmaifldiondchaaDoor
