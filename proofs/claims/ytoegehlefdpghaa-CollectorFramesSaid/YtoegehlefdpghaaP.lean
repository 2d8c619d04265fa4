/- The law's walk over the frames. -/
import Derived.Test.YtoegehlefdpghaaO
import Derived.Deep.RegionHeld3
import Derived.Deep.DrawnRows
set_option linter.unusedSimpArgs false
set_option linter.unusedVariables false
namespace Go.Proofs.Ytoegehlefdpghaa
open Go.RowKit

theorem neq41 (a b c : Int) (w : World) : (binOp .neq 41 (.agg #[.int .u32 a, .int .u32 b, .int .u64 c]) (.agg #[.int .u32 a, .int .u32 b, .int .u64 c])).run Try.prog w = .ok (.bool false) w := by
  simp [go_sem]
theorem neq30 (a b c : Int) (w : World) : (binOp .neq 30 (.agg #[.int .u32 a, .int .u32 b, .int .u64 c]) (.agg #[.int .u32 a, .int .u32 b, .int .u64 c])).run Try.prog w = .ok (.bool false) w := by
  simp [go_sem]

theorem back_yes2 (xe xn xp : Int) (lx ld : List Int) (hm : mayB xe xn xp = true) (hld : ld = dataOf xe xn xp lx) (A : Option Addr) (c : Nat) (w : World) (hr : Reads w A ld.length c ld) (hl : lx.length ≤ 400) (he : 0 ≤ xe ∧ xe < 4294967296) (hn : 0 ≤ xn ∧ xn < 18446744073709551616) (hp : 0 ≤ xp ∧ xp < 4294967296) :
    Calls Try.prog 10 #[.slice A ld.length c] w (NewParse w xe xn xp lx 0) := by
  subst hld
  exact back_yes xe xn xp lx hm A c w hr hl he hn hp
theorem back_no2 (ld : List Int) (hld : ld = []) (A : Option Addr) (c : Nat) (w : World) (hr : Reads w A ld.length c ld) : Calls Try.prog 10 #[.slice A ld.length c] w (NewParse w 0 0 0 [] 290) := by
  subst hld
  exact back_no A c w hr

set_option maxRecDepth 100000 in
set_option maxHeartbeats 80000000 in
attribute [local go_sem ↓] Go.wp_at_zero Go.wp_at_succ in
theorem law_any (xe xn xp ad ae an me mn : Int) (A : Option Addr) (m c : Nat) (lx : List Int) (ob : Option Addr) (nb cb : Nat) (lb ld : List Int) (fx : Int) (w : World)
    (hx : Reads w A m c lx) (hb : Reads w ob nb cb lb)
    (he : 0 ≤ xe ∧ xe < 4294967296) (hn : 0 ≤ xn ∧ xn < 18446744073709551616) (hp : 0 ≤ xp ∧ xp < 4294967296)
    (had : 0 ≤ ad ∧ ad < 4294967296) (hae : 0 ≤ ae ∧ ae < 4294967296) (han : 0 ≤ an ∧ an < 18446744073709551616) (hm : m ≤ 400) (hnb : nb ≤ 400)
    (hcase : Case xe xn xp lx ld fx) :
    Calls Try.prog 3 #[.agg #[.int .u32 xe, .int .u64 xn, .int .u32 xp, .slice A m c], .agg #[.int .u32 ad, .int .u32 ae, .int .u64 an], .agg #[.int .u32 me, .int .u64 mn], .slice ob nb cb] w (RetAt w (.bool true)) := by
  have HX := Lib.hid hx
  have HB := Lib.hid hb
  have HLX := Lib.hid hx.len
  have HLB := Lib.hid hb.len
  have HBB := Lib.hid (entB_byte lb hb.byte)
  have HE := Lib.hid he
  have HN := Lib.hid hn
  have HP := Lib.hid hp
  have HAD := Lib.hid had
  have HAE := Lib.hid hae
  have HAN := Lib.hid han
  have HC := Lib.hid hcase
  have HLD := Lib.hid (hcase.len (by have := hx.len; omega))
  have HLDB := Lib.hid (hcase.byte hx.byte)
  clear hx hb he hn hp had hae han hcase
  have hd1 : decide ((m : Int) > 400) = false := by simp; omega
  have hd2 : decide ((nb : Int) > 400) = false := by simp; omega
  go_enter Try.func3, Try.ntmps3
  go_wp2_with fail
  have M : True := trivial
  refine Calls.fresh (fun w1 => Hid (Mem w w1 [(w.heap.size + 1 + 1, [.int .u32 me, .int .u64 mn]), (w.heap.size + 1, [.int .u32 ad, .int .u32 ae, .int .u64 an]), (w.heap.size, [.int .u32 xe, .int .u64 xn, .int .u32 xp, .slice A m c])] [(A, m, c, lx), (ob, nb, cb, lb)])) ?_ ?_
  · have M0 := ((((Mem.start w).box #[.int .u32 xe, .int .u64 xn, .int .u32 xp, .slice A m c] 26).box #[.int .u32 ad, .int .u32 ae, .int .u64 an] 30).box #[.int .u32 me, .int .u64 mn] 28).rowed (((HB.out.alloc _).alloc _).alloc _) |>.rowed (((HX.out.alloc _).alloc _).alloc _)
    simp only [World.size_alloc] at M0
    exact Lib.hid M0
  clear M
  intro w1 M
  refine Calls.mono (docsentry_any xe xn xp A m c lx w1 (M.out.reads 0 rfl) (by omega)) ?_
  rintro en w2 ⟨o9, c9, rfl, ho, hb2⟩
  have M2 := Lib.hid ((M.out.go hb2).rowed (ho.reads (M.out.reads 0 rfl).byte))
  clear M ho hb2
  have M := M2
  clear M2
  go_wp2_with fail
  refine Calls.fresh (fun w1 => Hid (Mem w w1 [(w2.heap.size, [.int .u32 xe, .int .u64 xn, .int .u32 xp, .slice o9 lx.length c9]), (w.heap.size + 1 + 1, [.int .u32 me, .int .u64 mn]), (w.heap.size + 1, [.int .u32 ad, .int .u32 ae, .int .u64 an]), (w.heap.size, [.int .u32 xe, .int .u64 xn, .int .u32 xp, .slice A m c])] [(o9, lx.length, c9, lx), (A, m, c, lx), (ob, nb, cb, lb)])) ?_ ?_
  · have M0 := M.out.box #[.int .u32 xe, .int .u64 xn, .int .u32 xp, .slice o9 lx.length c9] 32
    simp only [World.size_alloc] at M0
    exact Lib.hid M0
  clear M
  intro w1 M
  generalize w2.heap.size = t9 at *
  clear w2
  refine Calls.mono (refput_case HC.out o9 lx.length c9 w1 (M.out.reads 0 rfl) (by have := HLX.out; omega) HE.out HN.out HP.out) ?_
  rintro en w2 ⟨o10, c10, rfl, ho, hb2⟩
  have M2 := Lib.hid ((M.out.go hb2).rowed (ho.reads HLDB.out))
  clear M ho hb2
  have M := M2
  clear M2
  go_wp2_with fail
  refine Calls.mono (refparsedata_any ob nb cb lb w2 (M.out.reads 3 rfl) (by omega)) ?_
  rintro en w3 ⟨o12, c12, rfl, ho, hb2⟩
  have M2 := Lib.hid ((M.out.go hb2).rowed (ho.reads HBB.out))
  clear M ho hb2
  have M := M2
  clear M2 w1 w2
  go_wp2_with fail
  refine Calls.fresh (fun w1 => Hid (Mem w w1 [(w3.heap.size, [.int .u32 (entE lb), .int .u64 (entN lb), .int .u32 (entP lb), .slice o12 (entB lb).length c12]), (t9, [.int .u32 xe, .int .u64 xn, .int .u32 xp, .slice o9 lx.length c9]), (w.heap.size + 1 + 1, [.int .u32 me, .int .u64 mn]), (w.heap.size + 1, [.int .u32 ad, .int .u32 ae, .int .u64 an]), (w.heap.size, [.int .u32 xe, .int .u64 xn, .int .u32 xp, .slice A m c])] [(o12, (entB lb).length, c12, entB lb), (o10, ld.length, c10, ld), (o9, lx.length, c9, lx), (A, m, c, lx), (ob, nb, cb, lb)])) ?_ ?_
  · have M0 := M.out.box #[.int .u32 (entE lb), .int .u64 (entN lb), .int .u32 (entP lb), .slice o12 (entB lb).length c12] 32
    simp only [World.size_alloc] at M0
    exact Lib.hid M0
  clear M
  intro w1 M
  generalize w3.heap.size = t12 at *
  clear w3
  refine Calls.mono (refparseack_any ob nb cb lb w1 (M.out.reads 4 rfl) (by omega)) ?_
  rintro en w2 ⟨rfl, hb2⟩
  have M2 := Lib.hid (M.out.go hb2)
  clear M hb2
  have M := M2
  clear M2
  go_wp2_with fail
  refine Code.fresh (fun w1 => Hid (Mem w w1 [(w2.heap.size, [.int .u32 (ackD lb), .int .u32 (ackE lb), .int .u64 (ackN lb)]), (t12, [.int .u32 (entE lb), .int .u64 (entN lb), .int .u32 (entP lb), .slice o12 (entB lb).length c12]), (t9, [.int .u32 xe, .int .u64 xn, .int .u32 xp, .slice o9 lx.length c9]), (w.heap.size + 1 + 1, [.int .u32 me, .int .u64 mn]), (w.heap.size + 1, [.int .u32 ad, .int .u32 ae, .int .u64 an]), (w.heap.size, [.int .u32 xe, .int .u64 xn, .int .u32 xp, .slice A m c])] [(o12, (entB lb).length, c12, entB lb), (o10, ld.length, c10, ld), (o9, lx.length, c9, lx), (A, m, c, lx), (ob, nb, cb, lb)])) ?_ ?_
  · have M0 := M.out.box #[.int .u32 (ackD lb), .int .u32 (ackE lb), .int .u64 (ackN lb)] 41
    simp only [World.size_alloc] at M0
    exact Lib.hid M0
  clear M
  intro w1 M
  generalize w2.heap.size = t14 at *
  clear w2
  go_loopw [16] (fun u16 wr => ∃ k : Nat, k ≤ 2 ∧ u16 = .int .i64 k ∧ Hid (Mem w wr [(t14, [.int .u32 (ackD lb), .int .u32 (ackE lb), .int .u64 (ackN lb)]), (t12, [.int .u32 (entE lb), .int .u64 (entN lb), .int .u32 (entP lb), .slice o12 (entB lb).length c12]), (t9, [.int .u32 xe, .int .u64 xn, .int .u32 xp, .slice o9 lx.length c9]), (w.heap.size + 1 + 1, [.int .u32 me, .int .u64 mn]), (w.heap.size + 1, [.int .u32 ad, .int .u32 ae, .int .u64 an]), (w.heap.size, [.int .u32 xe, .int .u64 xn, .int .u32 xp, .slice A m c])] [(o12, (entB lb).length, c12, entB lb), (o10, ld.length, c10, ld), (o9, lx.length, c9, lx), (A, m, c, lx), (ob, nb, cb, lb)])) (fun u16 _ => (2 : Int) - intOf u16 |>.toNat)
  case atStart => exact ⟨0, by decide, rfl, M⟩
  case round =>
    clear M
    obtain ⟨k, hk, rfl, M⟩ := hrel
    by_cases hlt : k < 2
    case neg =>
      have v40 := M.out.at 5 0 rfl rfl
      have v41 := M.out.at 5 1 rfl rfl
      have v42 := M.out.at 5 2 rfl rfl
      have v43 := M.out.at 5 3 rfl rfl
      have v4l := M.out.lt 5 rfl
      have v60 := M.out.at 3 0 rfl rfl
      have v61 := M.out.at 3 1 rfl rfl
      have v6l := M.out.lt 3 rfl
      have v90 := M.out.at 2 0 rfl rfl
      have v91 := M.out.at 2 1 rfl rfl
      have v92 := M.out.at 2 2 rfl rfl
      have v93 := M.out.at 2 3 rfl rfl
      have v9l := M.out.lt 2 rfl
      go_wp2_with fail
      refine wp_region_later (by kernel_rfl) (by kernel_rfl) ?_
      repeat go_big_quiet_step (first | (go_at_call 18; exact later_call (verdict_any _ _ _ _ _ _ _ _ _)) | (go_at_call 19; exact later_call (refverdict_any _ _ _ _ _ _ _ _ _)) | (go_at_call 4; exact later_call (works_any _)))
      refine wpQuiet_nil ?_
      intro x
      go_wp2_with fail
      go_ret
      exact .mk rfl (Below.via M.out.out x.below)
    have N := Lib.hid (Mem.mk M.out.cell M.out.row (Below.refl wr.heap.size wr))
    have x0 := N.out.at 5 0 rfl rfl
    have x1 := N.out.at 5 1 rfl rfl
    have x2 := N.out.at 5 2 rfl rfl
    have x3 := N.out.at 5 3 rfl rfl
    go_wp2_with fail
    clear x0 x1 x2 x3
    refine Calls.mono (put_case HC.out A m c wr (N.out.reads 3 rfl) (by omega) HE.out HN.out HP.out) ?_
    rintro en w2 ⟨o17, c17, rfl, ho, hb2⟩
    have D := Lib.hid ((Mine.none w2).add ho)
    have LS17 : wr.heap.size ≤ w2.heap.size := hb2.size
    have N2 := Lib.hid ((N.out.go hb2).rowed (ho.reads HLDB.out))
    clear N ho hb2
    have N := N2
    clear N2
    go_wp2_with fail
    generalize hs17 : w2.heap.size = s17 at *
    have HS17 := Lib.hid hs17
    clear hs17
    refine Calls.mono (parsedata_any ob nb cb lb w2 (N.out.reads 5 rfl) (by omega)) ?_
    rintro en w3 ⟨oz, cz, rfl, ho, hb2⟩
    rw [HS17.out] at ho
    have D2 := Lib.hid ((D.out.go hb2).add ho)
    have N2 := Lib.hid ((N.out.go hb2).rowed (ho.reads HBB.out))
    have l17 : s17 ≤ w3.heap.size := by rw [← HS17.out]; exact hb2.size
    clear N ho hb2 D HS17 w2
    have N := N2
    have D := D2
    clear N2 D2
    go_wp2_with fail
    refine Calls.fresh (fun w1 => Hid (Mem wr w1 [(w3.heap.size, [.int .u32 (entE lb), .int .u64 (entN lb), .int .u32 (entP lb), .slice oz (entB lb).length cz]), (t14, [.int .u32 (ackD lb), .int .u32 (ackE lb), .int .u64 (ackN lb)]), (t12, [.int .u32 (entE lb), .int .u64 (entN lb), .int .u32 (entP lb), .slice o12 (entB lb).length c12]), (t9, [.int .u32 xe, .int .u64 xn, .int .u32 xp, .slice o9 lx.length c9]), (w.heap.size + 1 + 1, [.int .u32 me, .int .u64 mn]), (w.heap.size + 1, [.int .u32 ad, .int .u32 ae, .int .u64 an]), (w.heap.size, [.int .u32 xe, .int .u64 xn, .int .u32 xp, .slice A m c])] [(oz, (entB lb).length, cz, entB lb), (o17, ld.length, c17, ld), (o12, (entB lb).length, c12, entB lb), (o10, ld.length, c10, ld), (o9, lx.length, c9, lx), (A, m, c, lx), (ob, nb, cb, lb)]) ∧ Hid (Mine w1 [(oz, (entB lb).length, cz, entB lb, s17, w3.heap.size), (o17, ld.length, c17, ld, wr.heap.size, s17)])) ?_ ?_
    · have M0 := N.out.box #[.int .u32 (entE lb), .int .u64 (entN lb), .int .u32 (entP lb), .slice oz (entB lb).length cz] 26
      simp only [World.size_alloc] at M0
      exact ⟨Lib.hid M0, Lib.hid (D.out.go ((Below.refl _ _).alloc (Nat.le_refl _) _))⟩
    clear N D
    rintro w1 ⟨N, D⟩
    generalize w3.heap.size = t19 at *
    clear w3
    refine Calls.mono (parseack_any ob nb cb lb w1 (N.out.reads 6 rfl) (by omega)) ?_
    rintro en w2 ⟨rfl, hb2⟩
    have N2 := Lib.hid (N.out.go hb2)
    have D2 := Lib.hid (D.out.go hb2)
    have l19 : t19 < w2.heap.size := Nat.lt_of_lt_of_le (N.out.lt 0 rfl) hb2.size
    clear N hb2 D
    have N := N2
    have D := D2
    clear N2 D2
    have z0 := N.out.at 5 0 rfl rfl
    have z1 := N.out.at 5 1 rfl rfl
    have z2 := N.out.at 5 2 rfl rfl
    have zl := N.out.lt 5 rfl
    go_wp2_with fail
    clear z0 z1 z2 zl
    refine Calls.fresh (fun w1 => Hid (Mem wr w1 [(w2.heap.size, [.int .u32 (ackD lb), .int .u32 (ackE lb), .int .u64 (ackN lb)]), (t19, [.int .u32 (entE lb), .int .u64 (entN lb), .int .u32 (entP lb), .slice oz (entB lb).length cz]), (t14, [.int .u32 (ackD lb), .int .u32 (ackE lb), .int .u64 (ackN lb)]), (t12, [.int .u32 (entE lb), .int .u64 (entN lb), .int .u32 (entP lb), .slice o12 (entB lb).length c12]), (t9, [.int .u32 xe, .int .u64 xn, .int .u32 xp, .slice o9 lx.length c9]), (w.heap.size + 1 + 1, [.int .u32 me, .int .u64 mn]), (w.heap.size + 1, [.int .u32 ad, .int .u32 ae, .int .u64 an]), (w.heap.size, [.int .u32 xe, .int .u64 xn, .int .u32 xp, .slice A m c])] [(oz, (entB lb).length, cz, entB lb), (o17, ld.length, c17, ld), (o12, (entB lb).length, c12, entB lb), (o10, ld.length, c10, ld), (o9, lx.length, c9, lx), (A, m, c, lx), (ob, nb, cb, lb)]) ∧ Hid (Mine w1 [(oz, (entB lb).length, cz, entB lb, s17, t19), (o17, ld.length, c17, ld, wr.heap.size, s17)])) ?_ ?_
    · have M0 := N.out.box #[.int .u32 (ackD lb), .int .u32 (ackE lb), .int .u64 (ackN lb)] 30
      simp only [World.size_alloc] at M0
      exact ⟨Lib.hid M0, Lib.hid (D.out.go ((Below.refl _ _).alloc (Nat.le_refl _) _))⟩
    clear N D
    rintro w1 ⟨N, D⟩
    generalize w2.heap.size = t21 at *
    clear w2
    refine Calls.mono (putack_any ad ae an w1 HAD.out HAE.out HAN.out) ?_
    rintro en w2 ⟨o23, c23, rfl, ho, hb2⟩
    have l21 := N.out.lt 0 rfl
    have D2 := Lib.hid ((D.out.go hb2).add ho)
    have N2 := Lib.hid ((N.out.go hb2).rowed (ho.reads (ackOf_byte ad ae an)))
    clear N ho hb2 D
    generalize w1.heap.size = s21 at *
    clear w1
    have N := N2
    have D := D2
    clear N2 D2
    go_wp2_with fail
    generalize w2.heap.size = s23 at *
    have LZ : (entB lb).length ≤ 1000000 := by
      have h := HLB.out
      have : (entB lb).length ≤ lb.length := by
        unfold entB; split
        · rw [List.length_drop]; omega
        · simp
      omega
    have q41 := neq41
    have HS0 : Hid ((fun w' => (w'.cell? ⟨t19, 0, none⟩ = some (.int .u32 (entE lb)) ∧ w'.cell? ⟨t19, 1, none⟩ = some (.int .u64 (entN lb)) ∧ w'.cell? ⟨t19, 2, none⟩ = some (.int .u32 (entP lb)) ∧ w'.cell? ⟨t19, 3, none⟩ = some (.slice oz (entB lb).length cz) ∧ w'.cell? ⟨t12, 0, none⟩ = some (.int .u32 (entE lb)) ∧ w'.cell? ⟨t12, 1, none⟩ = some (.int .u64 (entN lb)) ∧ w'.cell? ⟨t12, 2, none⟩ = some (.int .u32 (entP lb)) ∧ w'.cell? ⟨t12, 3, none⟩ = some (.slice o12 (entB lb).length c12) ∧ w'.cell? ⟨t21, 0, none⟩ = some (.int .u32 (ackD lb)) ∧ w'.cell? ⟨t21, 1, none⟩ = some (.int .u32 (ackE lb)) ∧ w'.cell? ⟨t21, 2, none⟩ = some (.int .u64 (ackN lb)) ∧ w'.cell? ⟨t14, 0, none⟩ = some (.int .u32 (ackD lb)) ∧ w'.cell? ⟨t14, 1, none⟩ = some (.int .u32 (ackE lb)) ∧ w'.cell? ⟨t14, 2, none⟩ = some (.int .u64 (ackN lb)) ∧ w'.cell? ⟨w.heap.size + 1, 0, none⟩ = some (.int .u32 ad) ∧ w'.cell? ⟨w.heap.size + 1, 1, none⟩ = some (.int .u32 ae) ∧ w'.cell? ⟨w.heap.size + 1, 2, none⟩ = some (.int .u64 an)) ∧ Mem wr w' [(t21, [.int .u32 (ackD lb), .int .u32 (ackE lb), .int .u64 (ackN lb)]), (t19, [.int .u32 (entE lb), .int .u64 (entN lb), .int .u32 (entP lb), .slice oz (entB lb).length cz]), (t14, [.int .u32 (ackD lb), .int .u32 (ackE lb), .int .u64 (ackN lb)]), (t12, [.int .u32 (entE lb), .int .u64 (entN lb), .int .u32 (entP lb), .slice o12 (entB lb).length c12]), (t9, [.int .u32 xe, .int .u64 xn, .int .u32 xp, .slice o9 lx.length c9]), (w.heap.size + 1 + 1, [.int .u32 me, .int .u64 mn]), (w.heap.size + 1, [.int .u32 ad, .int .u32 ae, .int .u64 an]), (w.heap.size, [.int .u32 xe, .int .u64 xn, .int .u32 xp, .slice A m c])] [(o23, (ackOf ad ae an).length, c23, ackOf ad ae an), (oz, (entB lb).length, cz, entB lb), (o17, ld.length, c17, ld), (o12, (entB lb).length, c12, entB lb), (o10, ld.length, c10, ld), (o9, lx.length, c9, lx), (A, m, c, lx), (ob, nb, cb, lb)] ∧ Mine w' [(o23, (ackOf ad ae an).length, c23, ackOf ad ae an, s21, s23), (oz, (entB lb).length, cz, entB lb, s17, t19), (o17, ld.length, c17, ld, wr.heap.size, s17)]) w2) := Lib.hid (by have h1 := N.out; exact ⟨⟨h1.at 1 0 rfl rfl, h1.at 1 1 rfl rfl, h1.at 1 2 rfl rfl, h1.at 1 3 rfl rfl, h1.at 3 0 rfl rfl, h1.at 3 1 rfl rfl, h1.at 3 2 rfl rfl, h1.at 3 3 rfl rfl, h1.at 0 0 rfl rfl, h1.at 0 1 rfl rfl, h1.at 0 2 rfl rfl, h1.at 2 0 rfl rfl, h1.at 2 1 rfl rfl, h1.at 2 2 rfl rfl, h1.at 6 0 rfl rfl, h1.at 6 1 rfl rfl, h1.at 6 2 rfl rfl⟩, h1, D.out⟩)
    have KS : Hid (∀ w1 w2 : World, (fun w' => (w'.cell? ⟨t19, 0, none⟩ = some (.int .u32 (entE lb)) ∧ w'.cell? ⟨t19, 1, none⟩ = some (.int .u64 (entN lb)) ∧ w'.cell? ⟨t19, 2, none⟩ = some (.int .u32 (entP lb)) ∧ w'.cell? ⟨t19, 3, none⟩ = some (.slice oz (entB lb).length cz) ∧ w'.cell? ⟨t12, 0, none⟩ = some (.int .u32 (entE lb)) ∧ w'.cell? ⟨t12, 1, none⟩ = some (.int .u64 (entN lb)) ∧ w'.cell? ⟨t12, 2, none⟩ = some (.int .u32 (entP lb)) ∧ w'.cell? ⟨t12, 3, none⟩ = some (.slice o12 (entB lb).length c12) ∧ w'.cell? ⟨t21, 0, none⟩ = some (.int .u32 (ackD lb)) ∧ w'.cell? ⟨t21, 1, none⟩ = some (.int .u32 (ackE lb)) ∧ w'.cell? ⟨t21, 2, none⟩ = some (.int .u64 (ackN lb)) ∧ w'.cell? ⟨t14, 0, none⟩ = some (.int .u32 (ackD lb)) ∧ w'.cell? ⟨t14, 1, none⟩ = some (.int .u32 (ackE lb)) ∧ w'.cell? ⟨t14, 2, none⟩ = some (.int .u64 (ackN lb)) ∧ w'.cell? ⟨w.heap.size + 1, 0, none⟩ = some (.int .u32 ad) ∧ w'.cell? ⟨w.heap.size + 1, 1, none⟩ = some (.int .u32 ae) ∧ w'.cell? ⟨w.heap.size + 1, 2, none⟩ = some (.int .u64 an)) ∧ Mem wr w' [(t21, [.int .u32 (ackD lb), .int .u32 (ackE lb), .int .u64 (ackN lb)]), (t19, [.int .u32 (entE lb), .int .u64 (entN lb), .int .u32 (entP lb), .slice oz (entB lb).length cz]), (t14, [.int .u32 (ackD lb), .int .u32 (ackE lb), .int .u64 (ackN lb)]), (t12, [.int .u32 (entE lb), .int .u64 (entN lb), .int .u32 (entP lb), .slice o12 (entB lb).length c12]), (t9, [.int .u32 xe, .int .u64 xn, .int .u32 xp, .slice o9 lx.length c9]), (w.heap.size + 1 + 1, [.int .u32 me, .int .u64 mn]), (w.heap.size + 1, [.int .u32 ad, .int .u32 ae, .int .u64 an]), (w.heap.size, [.int .u32 xe, .int .u64 xn, .int .u32 xp, .slice A m c])] [(o23, (ackOf ad ae an).length, c23, ackOf ad ae an), (oz, (entB lb).length, cz, entB lb), (o17, ld.length, c17, ld), (o12, (entB lb).length, c12, entB lb), (o10, ld.length, c10, ld), (o9, lx.length, c9, lx), (A, m, c, lx), (ob, nb, cb, lb)] ∧ Mine w' [(o23, (ackOf ad ae an).length, c23, ackOf ad ae an, s21, s23), (oz, (entB lb).length, cz, entB lb, s17, t19), (o17, ld.length, c17, ld, wr.heap.size, s17)]) w1 → Below w1.heap.size w1 w2 → (fun w' => (w'.cell? ⟨t19, 0, none⟩ = some (.int .u32 (entE lb)) ∧ w'.cell? ⟨t19, 1, none⟩ = some (.int .u64 (entN lb)) ∧ w'.cell? ⟨t19, 2, none⟩ = some (.int .u32 (entP lb)) ∧ w'.cell? ⟨t19, 3, none⟩ = some (.slice oz (entB lb).length cz) ∧ w'.cell? ⟨t12, 0, none⟩ = some (.int .u32 (entE lb)) ∧ w'.cell? ⟨t12, 1, none⟩ = some (.int .u64 (entN lb)) ∧ w'.cell? ⟨t12, 2, none⟩ = some (.int .u32 (entP lb)) ∧ w'.cell? ⟨t12, 3, none⟩ = some (.slice o12 (entB lb).length c12) ∧ w'.cell? ⟨t21, 0, none⟩ = some (.int .u32 (ackD lb)) ∧ w'.cell? ⟨t21, 1, none⟩ = some (.int .u32 (ackE lb)) ∧ w'.cell? ⟨t21, 2, none⟩ = some (.int .u64 (ackN lb)) ∧ w'.cell? ⟨t14, 0, none⟩ = some (.int .u32 (ackD lb)) ∧ w'.cell? ⟨t14, 1, none⟩ = some (.int .u32 (ackE lb)) ∧ w'.cell? ⟨t14, 2, none⟩ = some (.int .u64 (ackN lb)) ∧ w'.cell? ⟨w.heap.size + 1, 0, none⟩ = some (.int .u32 ad) ∧ w'.cell? ⟨w.heap.size + 1, 1, none⟩ = some (.int .u32 ae) ∧ w'.cell? ⟨w.heap.size + 1, 2, none⟩ = some (.int .u64 an)) ∧ Mem wr w' [(t21, [.int .u32 (ackD lb), .int .u32 (ackE lb), .int .u64 (ackN lb)]), (t19, [.int .u32 (entE lb), .int .u64 (entN lb), .int .u32 (entP lb), .slice oz (entB lb).length cz]), (t14, [.int .u32 (ackD lb), .int .u32 (ackE lb), .int .u64 (ackN lb)]), (t12, [.int .u32 (entE lb), .int .u64 (entN lb), .int .u32 (entP lb), .slice o12 (entB lb).length c12]), (t9, [.int .u32 xe, .int .u64 xn, .int .u32 xp, .slice o9 lx.length c9]), (w.heap.size + 1 + 1, [.int .u32 me, .int .u64 mn]), (w.heap.size + 1, [.int .u32 ad, .int .u32 ae, .int .u64 an]), (w.heap.size, [.int .u32 xe, .int .u64 xn, .int .u32 xp, .slice A m c])] [(o23, (ackOf ad ae an).length, c23, ackOf ad ae an), (oz, (entB lb).length, cz, entB lb), (o17, ld.length, c17, ld), (o12, (entB lb).length, c12, entB lb), (o10, ld.length, c10, ld), (o9, lx.length, c9, lx), (A, m, c, lx), (ob, nb, cb, lb)] ∧ Mine w' [(o23, (ackOf ad ae an).length, c23, ackOf ad ae an, s21, s23), (oz, (entB lb).length, cz, entB lb, s17, t19), (o17, ld.length, c17, ld, wr.heap.size, s17)]) w2) := Lib.hid (fun w1 w2 h hb => by have h1 := h.2.1.go hb; exact ⟨⟨h1.at 1 0 rfl rfl, h1.at 1 1 rfl rfl, h1.at 1 2 rfl rfl, h1.at 1 3 rfl rfl, h1.at 3 0 rfl rfl, h1.at 3 1 rfl rfl, h1.at 3 2 rfl rfl, h1.at 3 3 rfl rfl, h1.at 0 0 rfl rfl, h1.at 0 1 rfl rfl, h1.at 0 2 rfl rfl, h1.at 2 0 rfl rfl, h1.at 2 1 rfl rfl, h1.at 2 2 rfl rfl, h1.at 6 0 rfl rfl, h1.at 6 1 rfl rfl, h1.at 6 2 rfl rfl⟩, h1, h.2.2.go hb⟩)
    have R17 : Hid (∀ w1 : World, (fun w' => (w'.cell? ⟨t19, 0, none⟩ = some (.int .u32 (entE lb)) ∧ w'.cell? ⟨t19, 1, none⟩ = some (.int .u64 (entN lb)) ∧ w'.cell? ⟨t19, 2, none⟩ = some (.int .u32 (entP lb)) ∧ w'.cell? ⟨t19, 3, none⟩ = some (.slice oz (entB lb).length cz) ∧ w'.cell? ⟨t12, 0, none⟩ = some (.int .u32 (entE lb)) ∧ w'.cell? ⟨t12, 1, none⟩ = some (.int .u64 (entN lb)) ∧ w'.cell? ⟨t12, 2, none⟩ = some (.int .u32 (entP lb)) ∧ w'.cell? ⟨t12, 3, none⟩ = some (.slice o12 (entB lb).length c12) ∧ w'.cell? ⟨t21, 0, none⟩ = some (.int .u32 (ackD lb)) ∧ w'.cell? ⟨t21, 1, none⟩ = some (.int .u32 (ackE lb)) ∧ w'.cell? ⟨t21, 2, none⟩ = some (.int .u64 (ackN lb)) ∧ w'.cell? ⟨t14, 0, none⟩ = some (.int .u32 (ackD lb)) ∧ w'.cell? ⟨t14, 1, none⟩ = some (.int .u32 (ackE lb)) ∧ w'.cell? ⟨t14, 2, none⟩ = some (.int .u64 (ackN lb)) ∧ w'.cell? ⟨w.heap.size + 1, 0, none⟩ = some (.int .u32 ad) ∧ w'.cell? ⟨w.heap.size + 1, 1, none⟩ = some (.int .u32 ae) ∧ w'.cell? ⟨w.heap.size + 1, 2, none⟩ = some (.int .u64 an)) ∧ Mem wr w' [(t21, [.int .u32 (ackD lb), .int .u32 (ackE lb), .int .u64 (ackN lb)]), (t19, [.int .u32 (entE lb), .int .u64 (entN lb), .int .u32 (entP lb), .slice oz (entB lb).length cz]), (t14, [.int .u32 (ackD lb), .int .u32 (ackE lb), .int .u64 (ackN lb)]), (t12, [.int .u32 (entE lb), .int .u64 (entN lb), .int .u32 (entP lb), .slice o12 (entB lb).length c12]), (t9, [.int .u32 xe, .int .u64 xn, .int .u32 xp, .slice o9 lx.length c9]), (w.heap.size + 1 + 1, [.int .u32 me, .int .u64 mn]), (w.heap.size + 1, [.int .u32 ad, .int .u32 ae, .int .u64 an]), (w.heap.size, [.int .u32 xe, .int .u64 xn, .int .u32 xp, .slice A m c])] [(o23, (ackOf ad ae an).length, c23, ackOf ad ae an), (oz, (entB lb).length, cz, entB lb), (o17, ld.length, c17, ld), (o12, (entB lb).length, c12, entB lb), (o10, ld.length, c10, ld), (o9, lx.length, c9, lx), (A, m, c, lx), (ob, nb, cb, lb)] ∧ Mine w' [(o23, (ackOf ad ae an).length, c23, ackOf ad ae an, s21, s23), (oz, (entB lb).length, cz, entB lb, s17, t19), (o17, ld.length, c17, ld, wr.heap.size, s17)]) w1 → Reads w1 o17 ld.length c17 ld) := Lib.hid (fun w1 h => h.2.1.reads 2 rfl)
    have R10 : Hid (∀ w1 : World, (fun w' => (w'.cell? ⟨t19, 0, none⟩ = some (.int .u32 (entE lb)) ∧ w'.cell? ⟨t19, 1, none⟩ = some (.int .u64 (entN lb)) ∧ w'.cell? ⟨t19, 2, none⟩ = some (.int .u32 (entP lb)) ∧ w'.cell? ⟨t19, 3, none⟩ = some (.slice oz (entB lb).length cz) ∧ w'.cell? ⟨t12, 0, none⟩ = some (.int .u32 (entE lb)) ∧ w'.cell? ⟨t12, 1, none⟩ = some (.int .u64 (entN lb)) ∧ w'.cell? ⟨t12, 2, none⟩ = some (.int .u32 (entP lb)) ∧ w'.cell? ⟨t12, 3, none⟩ = some (.slice o12 (entB lb).length c12) ∧ w'.cell? ⟨t21, 0, none⟩ = some (.int .u32 (ackD lb)) ∧ w'.cell? ⟨t21, 1, none⟩ = some (.int .u32 (ackE lb)) ∧ w'.cell? ⟨t21, 2, none⟩ = some (.int .u64 (ackN lb)) ∧ w'.cell? ⟨t14, 0, none⟩ = some (.int .u32 (ackD lb)) ∧ w'.cell? ⟨t14, 1, none⟩ = some (.int .u32 (ackE lb)) ∧ w'.cell? ⟨t14, 2, none⟩ = some (.int .u64 (ackN lb)) ∧ w'.cell? ⟨w.heap.size + 1, 0, none⟩ = some (.int .u32 ad) ∧ w'.cell? ⟨w.heap.size + 1, 1, none⟩ = some (.int .u32 ae) ∧ w'.cell? ⟨w.heap.size + 1, 2, none⟩ = some (.int .u64 an)) ∧ Mem wr w' [(t21, [.int .u32 (ackD lb), .int .u32 (ackE lb), .int .u64 (ackN lb)]), (t19, [.int .u32 (entE lb), .int .u64 (entN lb), .int .u32 (entP lb), .slice oz (entB lb).length cz]), (t14, [.int .u32 (ackD lb), .int .u32 (ackE lb), .int .u64 (ackN lb)]), (t12, [.int .u32 (entE lb), .int .u64 (entN lb), .int .u32 (entP lb), .slice o12 (entB lb).length c12]), (t9, [.int .u32 xe, .int .u64 xn, .int .u32 xp, .slice o9 lx.length c9]), (w.heap.size + 1 + 1, [.int .u32 me, .int .u64 mn]), (w.heap.size + 1, [.int .u32 ad, .int .u32 ae, .int .u64 an]), (w.heap.size, [.int .u32 xe, .int .u64 xn, .int .u32 xp, .slice A m c])] [(o23, (ackOf ad ae an).length, c23, ackOf ad ae an), (oz, (entB lb).length, cz, entB lb), (o17, ld.length, c17, ld), (o12, (entB lb).length, c12, entB lb), (o10, ld.length, c10, ld), (o9, lx.length, c9, lx), (A, m, c, lx), (ob, nb, cb, lb)] ∧ Mine w' [(o23, (ackOf ad ae an).length, c23, ackOf ad ae an, s21, s23), (oz, (entB lb).length, cz, entB lb, s17, t19), (o17, ld.length, c17, ld, wr.heap.size, s17)]) w1 → Reads w1 o10 ld.length c10 ld) := Lib.hid (fun w1 h => h.2.1.reads 4 rfl)
    have RZ : Hid (∀ w1 : World, (fun w' => (w'.cell? ⟨t19, 0, none⟩ = some (.int .u32 (entE lb)) ∧ w'.cell? ⟨t19, 1, none⟩ = some (.int .u64 (entN lb)) ∧ w'.cell? ⟨t19, 2, none⟩ = some (.int .u32 (entP lb)) ∧ w'.cell? ⟨t19, 3, none⟩ = some (.slice oz (entB lb).length cz) ∧ w'.cell? ⟨t12, 0, none⟩ = some (.int .u32 (entE lb)) ∧ w'.cell? ⟨t12, 1, none⟩ = some (.int .u64 (entN lb)) ∧ w'.cell? ⟨t12, 2, none⟩ = some (.int .u32 (entP lb)) ∧ w'.cell? ⟨t12, 3, none⟩ = some (.slice o12 (entB lb).length c12) ∧ w'.cell? ⟨t21, 0, none⟩ = some (.int .u32 (ackD lb)) ∧ w'.cell? ⟨t21, 1, none⟩ = some (.int .u32 (ackE lb)) ∧ w'.cell? ⟨t21, 2, none⟩ = some (.int .u64 (ackN lb)) ∧ w'.cell? ⟨t14, 0, none⟩ = some (.int .u32 (ackD lb)) ∧ w'.cell? ⟨t14, 1, none⟩ = some (.int .u32 (ackE lb)) ∧ w'.cell? ⟨t14, 2, none⟩ = some (.int .u64 (ackN lb)) ∧ w'.cell? ⟨w.heap.size + 1, 0, none⟩ = some (.int .u32 ad) ∧ w'.cell? ⟨w.heap.size + 1, 1, none⟩ = some (.int .u32 ae) ∧ w'.cell? ⟨w.heap.size + 1, 2, none⟩ = some (.int .u64 an)) ∧ Mem wr w' [(t21, [.int .u32 (ackD lb), .int .u32 (ackE lb), .int .u64 (ackN lb)]), (t19, [.int .u32 (entE lb), .int .u64 (entN lb), .int .u32 (entP lb), .slice oz (entB lb).length cz]), (t14, [.int .u32 (ackD lb), .int .u32 (ackE lb), .int .u64 (ackN lb)]), (t12, [.int .u32 (entE lb), .int .u64 (entN lb), .int .u32 (entP lb), .slice o12 (entB lb).length c12]), (t9, [.int .u32 xe, .int .u64 xn, .int .u32 xp, .slice o9 lx.length c9]), (w.heap.size + 1 + 1, [.int .u32 me, .int .u64 mn]), (w.heap.size + 1, [.int .u32 ad, .int .u32 ae, .int .u64 an]), (w.heap.size, [.int .u32 xe, .int .u64 xn, .int .u32 xp, .slice A m c])] [(o23, (ackOf ad ae an).length, c23, ackOf ad ae an), (oz, (entB lb).length, cz, entB lb), (o17, ld.length, c17, ld), (o12, (entB lb).length, c12, entB lb), (o10, ld.length, c10, ld), (o9, lx.length, c9, lx), (A, m, c, lx), (ob, nb, cb, lb)] ∧ Mine w' [(o23, (ackOf ad ae an).length, c23, ackOf ad ae an, s21, s23), (oz, (entB lb).length, cz, entB lb, s17, t19), (o17, ld.length, c17, ld, wr.heap.size, s17)]) w1 → Reads w1 oz (entB lb).length cz (entB lb)) := Lib.hid (fun w1 h => h.2.1.reads 1 rfl)
    have R12 : Hid (∀ w1 : World, (fun w' => (w'.cell? ⟨t19, 0, none⟩ = some (.int .u32 (entE lb)) ∧ w'.cell? ⟨t19, 1, none⟩ = some (.int .u64 (entN lb)) ∧ w'.cell? ⟨t19, 2, none⟩ = some (.int .u32 (entP lb)) ∧ w'.cell? ⟨t19, 3, none⟩ = some (.slice oz (entB lb).length cz) ∧ w'.cell? ⟨t12, 0, none⟩ = some (.int .u32 (entE lb)) ∧ w'.cell? ⟨t12, 1, none⟩ = some (.int .u64 (entN lb)) ∧ w'.cell? ⟨t12, 2, none⟩ = some (.int .u32 (entP lb)) ∧ w'.cell? ⟨t12, 3, none⟩ = some (.slice o12 (entB lb).length c12) ∧ w'.cell? ⟨t21, 0, none⟩ = some (.int .u32 (ackD lb)) ∧ w'.cell? ⟨t21, 1, none⟩ = some (.int .u32 (ackE lb)) ∧ w'.cell? ⟨t21, 2, none⟩ = some (.int .u64 (ackN lb)) ∧ w'.cell? ⟨t14, 0, none⟩ = some (.int .u32 (ackD lb)) ∧ w'.cell? ⟨t14, 1, none⟩ = some (.int .u32 (ackE lb)) ∧ w'.cell? ⟨t14, 2, none⟩ = some (.int .u64 (ackN lb)) ∧ w'.cell? ⟨w.heap.size + 1, 0, none⟩ = some (.int .u32 ad) ∧ w'.cell? ⟨w.heap.size + 1, 1, none⟩ = some (.int .u32 ae) ∧ w'.cell? ⟨w.heap.size + 1, 2, none⟩ = some (.int .u64 an)) ∧ Mem wr w' [(t21, [.int .u32 (ackD lb), .int .u32 (ackE lb), .int .u64 (ackN lb)]), (t19, [.int .u32 (entE lb), .int .u64 (entN lb), .int .u32 (entP lb), .slice oz (entB lb).length cz]), (t14, [.int .u32 (ackD lb), .int .u32 (ackE lb), .int .u64 (ackN lb)]), (t12, [.int .u32 (entE lb), .int .u64 (entN lb), .int .u32 (entP lb), .slice o12 (entB lb).length c12]), (t9, [.int .u32 xe, .int .u64 xn, .int .u32 xp, .slice o9 lx.length c9]), (w.heap.size + 1 + 1, [.int .u32 me, .int .u64 mn]), (w.heap.size + 1, [.int .u32 ad, .int .u32 ae, .int .u64 an]), (w.heap.size, [.int .u32 xe, .int .u64 xn, .int .u32 xp, .slice A m c])] [(o23, (ackOf ad ae an).length, c23, ackOf ad ae an), (oz, (entB lb).length, cz, entB lb), (o17, ld.length, c17, ld), (o12, (entB lb).length, c12, entB lb), (o10, ld.length, c10, ld), (o9, lx.length, c9, lx), (A, m, c, lx), (ob, nb, cb, lb)] ∧ Mine w' [(o23, (ackOf ad ae an).length, c23, ackOf ad ae an, s21, s23), (oz, (entB lb).length, cz, entB lb, s17, t19), (o17, ld.length, c17, ld, wr.heap.size, s17)]) w1 → Reads w1 o12 (entB lb).length c12 (entB lb)) := Lib.hid (fun w1 h => h.2.1.reads 3 rfl)
    have R23 : Hid (∀ w1 : World, (fun w' => (w'.cell? ⟨t19, 0, none⟩ = some (.int .u32 (entE lb)) ∧ w'.cell? ⟨t19, 1, none⟩ = some (.int .u64 (entN lb)) ∧ w'.cell? ⟨t19, 2, none⟩ = some (.int .u32 (entP lb)) ∧ w'.cell? ⟨t19, 3, none⟩ = some (.slice oz (entB lb).length cz) ∧ w'.cell? ⟨t12, 0, none⟩ = some (.int .u32 (entE lb)) ∧ w'.cell? ⟨t12, 1, none⟩ = some (.int .u64 (entN lb)) ∧ w'.cell? ⟨t12, 2, none⟩ = some (.int .u32 (entP lb)) ∧ w'.cell? ⟨t12, 3, none⟩ = some (.slice o12 (entB lb).length c12) ∧ w'.cell? ⟨t21, 0, none⟩ = some (.int .u32 (ackD lb)) ∧ w'.cell? ⟨t21, 1, none⟩ = some (.int .u32 (ackE lb)) ∧ w'.cell? ⟨t21, 2, none⟩ = some (.int .u64 (ackN lb)) ∧ w'.cell? ⟨t14, 0, none⟩ = some (.int .u32 (ackD lb)) ∧ w'.cell? ⟨t14, 1, none⟩ = some (.int .u32 (ackE lb)) ∧ w'.cell? ⟨t14, 2, none⟩ = some (.int .u64 (ackN lb)) ∧ w'.cell? ⟨w.heap.size + 1, 0, none⟩ = some (.int .u32 ad) ∧ w'.cell? ⟨w.heap.size + 1, 1, none⟩ = some (.int .u32 ae) ∧ w'.cell? ⟨w.heap.size + 1, 2, none⟩ = some (.int .u64 an)) ∧ Mem wr w' [(t21, [.int .u32 (ackD lb), .int .u32 (ackE lb), .int .u64 (ackN lb)]), (t19, [.int .u32 (entE lb), .int .u64 (entN lb), .int .u32 (entP lb), .slice oz (entB lb).length cz]), (t14, [.int .u32 (ackD lb), .int .u32 (ackE lb), .int .u64 (ackN lb)]), (t12, [.int .u32 (entE lb), .int .u64 (entN lb), .int .u32 (entP lb), .slice o12 (entB lb).length c12]), (t9, [.int .u32 xe, .int .u64 xn, .int .u32 xp, .slice o9 lx.length c9]), (w.heap.size + 1 + 1, [.int .u32 me, .int .u64 mn]), (w.heap.size + 1, [.int .u32 ad, .int .u32 ae, .int .u64 an]), (w.heap.size, [.int .u32 xe, .int .u64 xn, .int .u32 xp, .slice A m c])] [(o23, (ackOf ad ae an).length, c23, ackOf ad ae an), (oz, (entB lb).length, cz, entB lb), (o17, ld.length, c17, ld), (o12, (entB lb).length, c12, entB lb), (o10, ld.length, c10, ld), (o9, lx.length, c9, lx), (A, m, c, lx), (ob, nb, cb, lb)] ∧ Mine w' [(o23, (ackOf ad ae an).length, c23, ackOf ad ae an, s21, s23), (oz, (entB lb).length, cz, entB lb, s17, t19), (o17, ld.length, c17, ld, wr.heap.size, s17)]) w1 → Reads w1 o23 (ackOf ad ae an).length c23 (ackOf ad ae an)) := Lib.hid (fun w1 h => h.2.1.reads 0 rfl)
    have KM : Hid (∀ w1 : World, (fun w' => (w'.cell? ⟨t19, 0, none⟩ = some (.int .u32 (entE lb)) ∧ w'.cell? ⟨t19, 1, none⟩ = some (.int .u64 (entN lb)) ∧ w'.cell? ⟨t19, 2, none⟩ = some (.int .u32 (entP lb)) ∧ w'.cell? ⟨t19, 3, none⟩ = some (.slice oz (entB lb).length cz) ∧ w'.cell? ⟨t12, 0, none⟩ = some (.int .u32 (entE lb)) ∧ w'.cell? ⟨t12, 1, none⟩ = some (.int .u64 (entN lb)) ∧ w'.cell? ⟨t12, 2, none⟩ = some (.int .u32 (entP lb)) ∧ w'.cell? ⟨t12, 3, none⟩ = some (.slice o12 (entB lb).length c12) ∧ w'.cell? ⟨t21, 0, none⟩ = some (.int .u32 (ackD lb)) ∧ w'.cell? ⟨t21, 1, none⟩ = some (.int .u32 (ackE lb)) ∧ w'.cell? ⟨t21, 2, none⟩ = some (.int .u64 (ackN lb)) ∧ w'.cell? ⟨t14, 0, none⟩ = some (.int .u32 (ackD lb)) ∧ w'.cell? ⟨t14, 1, none⟩ = some (.int .u32 (ackE lb)) ∧ w'.cell? ⟨t14, 2, none⟩ = some (.int .u64 (ackN lb)) ∧ w'.cell? ⟨w.heap.size + 1, 0, none⟩ = some (.int .u32 ad) ∧ w'.cell? ⟨w.heap.size + 1, 1, none⟩ = some (.int .u32 ae) ∧ w'.cell? ⟨w.heap.size + 1, 2, none⟩ = some (.int .u64 an)) ∧ Mem wr w' [(t21, [.int .u32 (ackD lb), .int .u32 (ackE lb), .int .u64 (ackN lb)]), (t19, [.int .u32 (entE lb), .int .u64 (entN lb), .int .u32 (entP lb), .slice oz (entB lb).length cz]), (t14, [.int .u32 (ackD lb), .int .u32 (ackE lb), .int .u64 (ackN lb)]), (t12, [.int .u32 (entE lb), .int .u64 (entN lb), .int .u32 (entP lb), .slice o12 (entB lb).length c12]), (t9, [.int .u32 xe, .int .u64 xn, .int .u32 xp, .slice o9 lx.length c9]), (w.heap.size + 1 + 1, [.int .u32 me, .int .u64 mn]), (w.heap.size + 1, [.int .u32 ad, .int .u32 ae, .int .u64 an]), (w.heap.size, [.int .u32 xe, .int .u64 xn, .int .u32 xp, .slice A m c])] [(o23, (ackOf ad ae an).length, c23, ackOf ad ae an), (oz, (entB lb).length, cz, entB lb), (o17, ld.length, c17, ld), (o12, (entB lb).length, c12, entB lb), (o10, ld.length, c10, ld), (o9, lx.length, c9, lx), (A, m, c, lx), (ob, nb, cb, lb)] ∧ Mine w' [(o23, (ackOf ad ae an).length, c23, ackOf ad ae an, s21, s23), (oz, (entB lb).length, cz, entB lb, s17, t19), (o17, ld.length, c17, ld, wr.heap.size, s17)]) w1 → Mem wr w1 [(t21, [.int .u32 (ackD lb), .int .u32 (ackE lb), .int .u64 (ackN lb)]), (t19, [.int .u32 (entE lb), .int .u64 (entN lb), .int .u32 (entP lb), .slice oz (entB lb).length cz]), (t14, [.int .u32 (ackD lb), .int .u32 (ackE lb), .int .u64 (ackN lb)]), (t12, [.int .u32 (entE lb), .int .u64 (entN lb), .int .u32 (entP lb), .slice o12 (entB lb).length c12]), (t9, [.int .u32 xe, .int .u64 xn, .int .u32 xp, .slice o9 lx.length c9]), (w.heap.size + 1 + 1, [.int .u32 me, .int .u64 mn]), (w.heap.size + 1, [.int .u32 ad, .int .u32 ae, .int .u64 an]), (w.heap.size, [.int .u32 xe, .int .u64 xn, .int .u32 xp, .slice A m c])] [(o23, (ackOf ad ae an).length, c23, ackOf ad ae an), (oz, (entB lb).length, cz, entB lb), (o17, ld.length, c17, ld), (o12, (entB lb).length, c12, entB lb), (o10, ld.length, c10, ld), (o9, lx.length, c9, lx), (A, m, c, lx), (ob, nb, cb, lb)] ∧ Mine w1 [(o23, (ackOf ad ae an).length, c23, ackOf ad ae an, s21, s23), (oz, (entB lb).length, cz, entB lb, s17, t19), (o17, ld.length, c17, ld, wr.heap.size, s17)]) := Lib.hid (fun w1 h => h.2)
    clear N D
    generalize hQ : Exit.then _ _ = Q
    have HQ := Lib.hid hQ
    clear hQ
    go_region_held3 (fun w' => (w'.cell? ⟨t19, 0, none⟩ = some (.int .u32 (entE lb)) ∧ w'.cell? ⟨t19, 1, none⟩ = some (.int .u64 (entN lb)) ∧ w'.cell? ⟨t19, 2, none⟩ = some (.int .u32 (entP lb)) ∧ w'.cell? ⟨t19, 3, none⟩ = some (.slice oz (entB lb).length cz) ∧ w'.cell? ⟨t12, 0, none⟩ = some (.int .u32 (entE lb)) ∧ w'.cell? ⟨t12, 1, none⟩ = some (.int .u64 (entN lb)) ∧ w'.cell? ⟨t12, 2, none⟩ = some (.int .u32 (entP lb)) ∧ w'.cell? ⟨t12, 3, none⟩ = some (.slice o12 (entB lb).length c12) ∧ w'.cell? ⟨t21, 0, none⟩ = some (.int .u32 (ackD lb)) ∧ w'.cell? ⟨t21, 1, none⟩ = some (.int .u32 (ackE lb)) ∧ w'.cell? ⟨t21, 2, none⟩ = some (.int .u64 (ackN lb)) ∧ w'.cell? ⟨t14, 0, none⟩ = some (.int .u32 (ackD lb)) ∧ w'.cell? ⟨t14, 1, none⟩ = some (.int .u32 (ackE lb)) ∧ w'.cell? ⟨t14, 2, none⟩ = some (.int .u64 (ackN lb)) ∧ w'.cell? ⟨w.heap.size + 1, 0, none⟩ = some (.int .u32 ad) ∧ w'.cell? ⟨w.heap.size + 1, 1, none⟩ = some (.int .u32 ae) ∧ w'.cell? ⟨w.heap.size + 1, 2, none⟩ = some (.int .u64 an)) ∧ Mem wr w' [(t21, [.int .u32 (ackD lb), .int .u32 (ackE lb), .int .u64 (ackN lb)]), (t19, [.int .u32 (entE lb), .int .u64 (entN lb), .int .u32 (entP lb), .slice oz (entB lb).length cz]), (t14, [.int .u32 (ackD lb), .int .u32 (ackE lb), .int .u64 (ackN lb)]), (t12, [.int .u32 (entE lb), .int .u64 (entN lb), .int .u32 (entP lb), .slice o12 (entB lb).length c12]), (t9, [.int .u32 xe, .int .u64 xn, .int .u32 xp, .slice o9 lx.length c9]), (w.heap.size + 1 + 1, [.int .u32 me, .int .u64 mn]), (w.heap.size + 1, [.int .u32 ad, .int .u32 ae, .int .u64 an]), (w.heap.size, [.int .u32 xe, .int .u64 xn, .int .u32 xp, .slice A m c])] [(o23, (ackOf ad ae an).length, c23, ackOf ad ae an), (oz, (entB lb).length, cz, entB lb), (o17, ld.length, c17, ld), (o12, (entB lb).length, c12, entB lb), (o10, ld.length, c10, ld), (o9, lx.length, c9, lx), (A, m, c, lx), (ob, nb, cb, lb)] ∧ Mine w' [(o23, (ackOf ad ae an).length, c23, ackOf ad ae an, s21, s23), (oz, (entB lb).length, cz, entB lb, s17, t19), (o17, ld.length, c17, ld, wr.heap.size, s17)])
      (first | (with_reducible exact KS.out _ _ HS0.out (Below.refl _ _).drew) | (with_reducible exact KS.out _ _ (by assumption) hb))
      (first
      | (go_at_call 13; (with_reducible refine Calls.mono (same_any o17 ld.length c17 o10 ld.length c10 ld _ (R17.out _ (by assumption)) (R10.out _ (by assumption))) ?_); rintro en w' ⟨rfl, hb⟩)
      | (go_at_call 5; (with_reducible refine Calls.mono (docsentry_any (entE lb) (entN lb) (entP lb) oz _ cz (entB lb) _ (RZ.out _ (by assumption)) LZ) ?_); rintro en w' ⟨o92, c92, rfl, ho92, hb⟩; have R92 := ho92.reads HBB.out)
      | (go_at_call 14; (with_reducible refine Calls.mono (same14_any (entE lb) (entN lb) (entP lb) o92 _ c92 o12 _ c12 (entB lb) _ R92 (R12.out _ (by assumption))) ?_); rintro en w' ⟨rfl, hb⟩)
      | (go_at_call 15; (with_reducible refine Calls.mono (docsack_any _ _ _ _) ?_); rintro en w' ⟨rfl, hb⟩)
      | (go_at_call 16; (with_reducible refine Calls.mono (refputack_any ad ae an _ HAD.out HAE.out HAN.out) ?_); rintro en w' ⟨o112, c112, rfl, ho112, hb⟩; have R112 := ho112.reads (ackOf_byte ad ae an))
      | (go_at_call 13; (with_reducible refine Calls.mono (same_any o23 _ c23 o112 _ c112 (ackOf ad ae an) _ (R23.out _ (by assumption)) R112) ?_); rintro en w' ⟨rfl, hb⟩))
    have hS : Mem wr w' [(t21, [.int .u32 (ackD lb), .int .u32 (ackE lb), .int .u64 (ackN lb)]), (t19, [.int .u32 (entE lb), .int .u64 (entN lb), .int .u32 (entP lb), .slice oz (entB lb).length cz]), (t14, [.int .u32 (ackD lb), .int .u32 (ackE lb), .int .u64 (ackN lb)]), (t12, [.int .u32 (entE lb), .int .u64 (entN lb), .int .u32 (entP lb), .slice o12 (entB lb).length c12]), (t9, [.int .u32 xe, .int .u64 xn, .int .u32 xp, .slice o9 lx.length c9]), (w.heap.size + 1 + 1, [.int .u32 me, .int .u64 mn]), (w.heap.size + 1, [.int .u32 ad, .int .u32 ae, .int .u64 an]), (w.heap.size, [.int .u32 xe, .int .u64 xn, .int .u32 xp, .slice A m c])] [(o23, (ackOf ad ae an).length, c23, ackOf ad ae an), (oz, (entB lb).length, cz, entB lb), (o17, ld.length, c17, ld), (o12, (entB lb).length, c12, entB lb), (o10, ld.length, c10, ld), (o9, lx.length, c9, lx), (A, m, c, lx), (ob, nb, cb, lb)] ∧ Mine w' [(o23, (ackOf ad ae an).length, c23, ackOf ad ae an, s21, s23), (oz, (entB lb).length, cz, entB lb, s17, t19), (o17, ld.length, c17, ld, wr.heap.size, s17)] := KM.out w' (by assumption)
    have N := Lib.hid hS.1
    have D := Lib.hid hS.2
    rw [← HQ.out]
    clear hS HS0 KS R17 R10 RZ R12 R23 KM HQ q41
    generalize w' = w2 at *
    go_wp2_with fail
    rcases HC.out with ⟨hm1, hld, hfx⟩ | ⟨hm1, hld, hfx⟩
    · have HLE := Lib.hid hld
      have fx1 : (fx == 0) = true := by rw [hfx]; rfl
      have fx2 : (fx != 0) = false := by rw [hfx]; rfl
      clear HC hld hfx
      refine Calls.mono (back_yes2 xe xn xp lx ld hm1 HLE.out o17 c17 _ (N.out.reads 2 rfl) (by have := HLX.out; omega) HE.out HN.out HP.out) ?_
      rintro en w3 ⟨oy, cy, rfl, ho, hb2⟩
      have N2 := Lib.hid ((N.out.go hb2).rowed (ho.reads (N.out.reads 6 rfl).byte))
      have D2 := Lib.hid (D.out.go hb2)
      clear N ho hb2 D
      have N := N2
      have D := D2
      clear N2 D2
      go_wp2_with fail
      refine Calls.fresh (fun w1 => Hid (Mem wr w1 [(w3.heap.size, [.int .u32 xe, .int .u64 xn, .int .u32 xp, .slice oy lx.length cy]), (t21, [.int .u32 (ackD lb), .int .u32 (ackE lb), .int .u64 (ackN lb)]), (t19, [.int .u32 (entE lb), .int .u64 (entN lb), .int .u32 (entP lb), .slice oz (entB lb).length cz]), (t14, [.int .u32 (ackD lb), .int .u32 (ackE lb), .int .u64 (ackN lb)]), (t12, [.int .u32 (entE lb), .int .u64 (entN lb), .int .u32 (entP lb), .slice o12 (entB lb).length c12]), (t9, [.int .u32 xe, .int .u64 xn, .int .u32 xp, .slice o9 lx.length c9]), (w.heap.size + 1 + 1, [.int .u32 me, .int .u64 mn]), (w.heap.size + 1, [.int .u32 ad, .int .u32 ae, .int .u64 an]), (w.heap.size, [.int .u32 xe, .int .u64 xn, .int .u32 xp, .slice A m c])] [(oy, lx.length, cy, lx), (o23, (ackOf ad ae an).length, c23, ackOf ad ae an), (oz, (entB lb).length, cz, entB lb), (o17, ld.length, c17, ld), (o12, (entB lb).length, c12, entB lb), (o10, ld.length, c10, ld), (o9, lx.length, c9, lx), (A, m, c, lx), (ob, nb, cb, lb)]) ∧ Hid (Mine w1 [(o23, (ackOf ad ae an).length, c23, ackOf ad ae an, s21, s23), (oz, (entB lb).length, cz, entB lb, s17, t19), (o17, ld.length, c17, ld, wr.heap.size, s17)])) ?_ ?_
      · have M0 := N.out.box #[.int .u32 xe, .int .u64 xn, .int .u32 xp, .slice oy lx.length cy] 26
        simp only [World.size_alloc] at M0
        exact ⟨Lib.hid M0, Lib.hid (D.out.go ((Below.refl _ _).alloc (Nat.le_refl _) _))⟩
      clear N D
      rintro w1 ⟨N, D⟩
      generalize w3.heap.size = t24 at *
      clear w3
      refine Calls.mono (back_ack ad ae an o23 c23 w1 (N.out.reads 1 rfl) HAD.out HAE.out HAN.out) ?_
      rintro en w3 ⟨rfl, hb2⟩
      have N2 := Lib.hid (N.out.go hb2)
      have D2 := Lib.hid (D.out.go hb2)
      clear N hb2 D
      have N := N2
      have D := D2
      clear N2 D2
      go_wp2_with fail
      refine Code.fresh (fun w1 => Hid (Mem wr w1 [(w3.heap.size, [.int .u32 ad, .int .u32 ae, .int .u64 an]), (t24, [.int .u32 xe, .int .u64 xn, .int .u32 xp, .slice oy lx.length cy]), (t21, [.int .u32 (ackD lb), .int .u32 (ackE lb), .int .u64 (ackN lb)]), (t19, [.int .u32 (entE lb), .int .u64 (entN lb), .int .u32 (entP lb), .slice oz (entB lb).length cz]), (t14, [.int .u32 (ackD lb), .int .u32 (ackE lb), .int .u64 (ackN lb)]), (t12, [.int .u32 (entE lb), .int .u64 (entN lb), .int .u32 (entP lb), .slice o12 (entB lb).length c12]), (t9, [.int .u32 xe, .int .u64 xn, .int .u32 xp, .slice o9 lx.length c9]), (w.heap.size + 1 + 1, [.int .u32 me, .int .u64 mn]), (w.heap.size + 1, [.int .u32 ad, .int .u32 ae, .int .u64 an]), (w.heap.size, [.int .u32 xe, .int .u64 xn, .int .u32 xp, .slice A m c])] [(oy, lx.length, cy, lx), (o23, (ackOf ad ae an).length, c23, ackOf ad ae an), (oz, (entB lb).length, cz, entB lb), (o17, ld.length, c17, ld), (o12, (entB lb).length, c12, entB lb), (o10, ld.length, c10, ld), (o9, lx.length, c9, lx), (A, m, c, lx), (ob, nb, cb, lb)]) ∧ Hid (Mine w1 [(o23, (ackOf ad ae an).length, c23, ackOf ad ae an, s21, s23), (oz, (entB lb).length, cz, entB lb, s17, t19), (o17, ld.length, c17, ld, wr.heap.size, s17)])) ?_ ?_
      · have M0 := N.out.box #[.int .u32 ad, .int .u32 ae, .int .u64 an] 30
        simp only [World.size_alloc] at M0
        exact ⟨Lib.hid M0, Lib.hid (D.out.go ((Below.refl _ _).alloc (Nat.le_refl _) _))⟩
      clear N D
      rintro w1 ⟨N, D⟩
      generalize w3.heap.size = t26 at *
      clear w3
      have q30 := neq30
      have LX : lx.length ≤ 1000000 := by have := HLX.out; omega
      have LXB := Lib.hid (N.out.reads 0 rfl).byte
      have HS0 : Hid ((fun w' => (w'.cell? ⟨t24, 0, none⟩ = some (.int .u32 xe) ∧ w'.cell? ⟨t24, 1, none⟩ = some (.int .u64 xn) ∧ w'.cell? ⟨t24, 2, none⟩ = some (.int .u32 xp) ∧ w'.cell? ⟨t24, 3, none⟩ = some (.slice oy lx.length cy) ∧ w'.cell? ⟨t9, 0, none⟩ = some (.int .u32 xe) ∧ w'.cell? ⟨t9, 1, none⟩ = some (.int .u64 xn) ∧ w'.cell? ⟨t9, 2, none⟩ = some (.int .u32 xp) ∧ w'.cell? ⟨t9, 3, none⟩ = some (.slice o9 lx.length c9) ∧ w'.cell? ⟨t26, 0, none⟩ = some (.int .u32 ad) ∧ w'.cell? ⟨t26, 1, none⟩ = some (.int .u32 ae) ∧ w'.cell? ⟨t26, 2, none⟩ = some (.int .u64 an) ∧ w'.cell? ⟨w.heap.size + 1, 0, none⟩ = some (.int .u32 ad) ∧ w'.cell? ⟨w.heap.size + 1, 1, none⟩ = some (.int .u32 ae) ∧ w'.cell? ⟨w.heap.size + 1, 2, none⟩ = some (.int .u64 an)) ∧ Mem wr w' [(t26, [.int .u32 ad, .int .u32 ae, .int .u64 an]), (t24, [.int .u32 xe, .int .u64 xn, .int .u32 xp, .slice oy lx.length cy]), (t21, [.int .u32 (ackD lb), .int .u32 (ackE lb), .int .u64 (ackN lb)]), (t19, [.int .u32 (entE lb), .int .u64 (entN lb), .int .u32 (entP lb), .slice oz (entB lb).length cz]), (t14, [.int .u32 (ackD lb), .int .u32 (ackE lb), .int .u64 (ackN lb)]), (t12, [.int .u32 (entE lb), .int .u64 (entN lb), .int .u32 (entP lb), .slice o12 (entB lb).length c12]), (t9, [.int .u32 xe, .int .u64 xn, .int .u32 xp, .slice o9 lx.length c9]), (w.heap.size + 1 + 1, [.int .u32 me, .int .u64 mn]), (w.heap.size + 1, [.int .u32 ad, .int .u32 ae, .int .u64 an]), (w.heap.size, [.int .u32 xe, .int .u64 xn, .int .u32 xp, .slice A m c])] [(oy, lx.length, cy, lx), (o23, (ackOf ad ae an).length, c23, ackOf ad ae an), (oz, (entB lb).length, cz, entB lb), (o17, ld.length, c17, ld), (o12, (entB lb).length, c12, entB lb), (o10, ld.length, c10, ld), (o9, lx.length, c9, lx), (A, m, c, lx), (ob, nb, cb, lb)] ∧ Mine w' [(o23, (ackOf ad ae an).length, c23, ackOf ad ae an, s21, s23), (oz, (entB lb).length, cz, entB lb, s17, t19), (o17, ld.length, c17, ld, wr.heap.size, s17)]) w1) := Lib.hid (by have h1 := N.out; exact ⟨⟨h1.at 1 0 rfl rfl, h1.at 1 1 rfl rfl, h1.at 1 2 rfl rfl, h1.at 1 3 rfl rfl, h1.at 6 0 rfl rfl, h1.at 6 1 rfl rfl, h1.at 6 2 rfl rfl, h1.at 6 3 rfl rfl, h1.at 0 0 rfl rfl, h1.at 0 1 rfl rfl, h1.at 0 2 rfl rfl, h1.at 8 0 rfl rfl, h1.at 8 1 rfl rfl, h1.at 8 2 rfl rfl⟩, h1, D.out⟩)
      have KS : Hid (∀ w1 w2 : World, (fun w' => (w'.cell? ⟨t24, 0, none⟩ = some (.int .u32 xe) ∧ w'.cell? ⟨t24, 1, none⟩ = some (.int .u64 xn) ∧ w'.cell? ⟨t24, 2, none⟩ = some (.int .u32 xp) ∧ w'.cell? ⟨t24, 3, none⟩ = some (.slice oy lx.length cy) ∧ w'.cell? ⟨t9, 0, none⟩ = some (.int .u32 xe) ∧ w'.cell? ⟨t9, 1, none⟩ = some (.int .u64 xn) ∧ w'.cell? ⟨t9, 2, none⟩ = some (.int .u32 xp) ∧ w'.cell? ⟨t9, 3, none⟩ = some (.slice o9 lx.length c9) ∧ w'.cell? ⟨t26, 0, none⟩ = some (.int .u32 ad) ∧ w'.cell? ⟨t26, 1, none⟩ = some (.int .u32 ae) ∧ w'.cell? ⟨t26, 2, none⟩ = some (.int .u64 an) ∧ w'.cell? ⟨w.heap.size + 1, 0, none⟩ = some (.int .u32 ad) ∧ w'.cell? ⟨w.heap.size + 1, 1, none⟩ = some (.int .u32 ae) ∧ w'.cell? ⟨w.heap.size + 1, 2, none⟩ = some (.int .u64 an)) ∧ Mem wr w' [(t26, [.int .u32 ad, .int .u32 ae, .int .u64 an]), (t24, [.int .u32 xe, .int .u64 xn, .int .u32 xp, .slice oy lx.length cy]), (t21, [.int .u32 (ackD lb), .int .u32 (ackE lb), .int .u64 (ackN lb)]), (t19, [.int .u32 (entE lb), .int .u64 (entN lb), .int .u32 (entP lb), .slice oz (entB lb).length cz]), (t14, [.int .u32 (ackD lb), .int .u32 (ackE lb), .int .u64 (ackN lb)]), (t12, [.int .u32 (entE lb), .int .u64 (entN lb), .int .u32 (entP lb), .slice o12 (entB lb).length c12]), (t9, [.int .u32 xe, .int .u64 xn, .int .u32 xp, .slice o9 lx.length c9]), (w.heap.size + 1 + 1, [.int .u32 me, .int .u64 mn]), (w.heap.size + 1, [.int .u32 ad, .int .u32 ae, .int .u64 an]), (w.heap.size, [.int .u32 xe, .int .u64 xn, .int .u32 xp, .slice A m c])] [(oy, lx.length, cy, lx), (o23, (ackOf ad ae an).length, c23, ackOf ad ae an), (oz, (entB lb).length, cz, entB lb), (o17, ld.length, c17, ld), (o12, (entB lb).length, c12, entB lb), (o10, ld.length, c10, ld), (o9, lx.length, c9, lx), (A, m, c, lx), (ob, nb, cb, lb)] ∧ Mine w' [(o23, (ackOf ad ae an).length, c23, ackOf ad ae an, s21, s23), (oz, (entB lb).length, cz, entB lb, s17, t19), (o17, ld.length, c17, ld, wr.heap.size, s17)]) w1 → Below w1.heap.size w1 w2 → (fun w' => (w'.cell? ⟨t24, 0, none⟩ = some (.int .u32 xe) ∧ w'.cell? ⟨t24, 1, none⟩ = some (.int .u64 xn) ∧ w'.cell? ⟨t24, 2, none⟩ = some (.int .u32 xp) ∧ w'.cell? ⟨t24, 3, none⟩ = some (.slice oy lx.length cy) ∧ w'.cell? ⟨t9, 0, none⟩ = some (.int .u32 xe) ∧ w'.cell? ⟨t9, 1, none⟩ = some (.int .u64 xn) ∧ w'.cell? ⟨t9, 2, none⟩ = some (.int .u32 xp) ∧ w'.cell? ⟨t9, 3, none⟩ = some (.slice o9 lx.length c9) ∧ w'.cell? ⟨t26, 0, none⟩ = some (.int .u32 ad) ∧ w'.cell? ⟨t26, 1, none⟩ = some (.int .u32 ae) ∧ w'.cell? ⟨t26, 2, none⟩ = some (.int .u64 an) ∧ w'.cell? ⟨w.heap.size + 1, 0, none⟩ = some (.int .u32 ad) ∧ w'.cell? ⟨w.heap.size + 1, 1, none⟩ = some (.int .u32 ae) ∧ w'.cell? ⟨w.heap.size + 1, 2, none⟩ = some (.int .u64 an)) ∧ Mem wr w' [(t26, [.int .u32 ad, .int .u32 ae, .int .u64 an]), (t24, [.int .u32 xe, .int .u64 xn, .int .u32 xp, .slice oy lx.length cy]), (t21, [.int .u32 (ackD lb), .int .u32 (ackE lb), .int .u64 (ackN lb)]), (t19, [.int .u32 (entE lb), .int .u64 (entN lb), .int .u32 (entP lb), .slice oz (entB lb).length cz]), (t14, [.int .u32 (ackD lb), .int .u32 (ackE lb), .int .u64 (ackN lb)]), (t12, [.int .u32 (entE lb), .int .u64 (entN lb), .int .u32 (entP lb), .slice o12 (entB lb).length c12]), (t9, [.int .u32 xe, .int .u64 xn, .int .u32 xp, .slice o9 lx.length c9]), (w.heap.size + 1 + 1, [.int .u32 me, .int .u64 mn]), (w.heap.size + 1, [.int .u32 ad, .int .u32 ae, .int .u64 an]), (w.heap.size, [.int .u32 xe, .int .u64 xn, .int .u32 xp, .slice A m c])] [(oy, lx.length, cy, lx), (o23, (ackOf ad ae an).length, c23, ackOf ad ae an), (oz, (entB lb).length, cz, entB lb), (o17, ld.length, c17, ld), (o12, (entB lb).length, c12, entB lb), (o10, ld.length, c10, ld), (o9, lx.length, c9, lx), (A, m, c, lx), (ob, nb, cb, lb)] ∧ Mine w' [(o23, (ackOf ad ae an).length, c23, ackOf ad ae an, s21, s23), (oz, (entB lb).length, cz, entB lb, s17, t19), (o17, ld.length, c17, ld, wr.heap.size, s17)]) w2) := Lib.hid (fun w1 w2 h hb => by have h1 := h.2.1.go hb; exact ⟨⟨h1.at 1 0 rfl rfl, h1.at 1 1 rfl rfl, h1.at 1 2 rfl rfl, h1.at 1 3 rfl rfl, h1.at 6 0 rfl rfl, h1.at 6 1 rfl rfl, h1.at 6 2 rfl rfl, h1.at 6 3 rfl rfl, h1.at 0 0 rfl rfl, h1.at 0 1 rfl rfl, h1.at 0 2 rfl rfl, h1.at 8 0 rfl rfl, h1.at 8 1 rfl rfl, h1.at 8 2 rfl rfl⟩, h1, h.2.2.go hb⟩)
      have RY : Hid (∀ w1 : World, (fun w' => (w'.cell? ⟨t24, 0, none⟩ = some (.int .u32 xe) ∧ w'.cell? ⟨t24, 1, none⟩ = some (.int .u64 xn) ∧ w'.cell? ⟨t24, 2, none⟩ = some (.int .u32 xp) ∧ w'.cell? ⟨t24, 3, none⟩ = some (.slice oy lx.length cy) ∧ w'.cell? ⟨t9, 0, none⟩ = some (.int .u32 xe) ∧ w'.cell? ⟨t9, 1, none⟩ = some (.int .u64 xn) ∧ w'.cell? ⟨t9, 2, none⟩ = some (.int .u32 xp) ∧ w'.cell? ⟨t9, 3, none⟩ = some (.slice o9 lx.length c9) ∧ w'.cell? ⟨t26, 0, none⟩ = some (.int .u32 ad) ∧ w'.cell? ⟨t26, 1, none⟩ = some (.int .u32 ae) ∧ w'.cell? ⟨t26, 2, none⟩ = some (.int .u64 an) ∧ w'.cell? ⟨w.heap.size + 1, 0, none⟩ = some (.int .u32 ad) ∧ w'.cell? ⟨w.heap.size + 1, 1, none⟩ = some (.int .u32 ae) ∧ w'.cell? ⟨w.heap.size + 1, 2, none⟩ = some (.int .u64 an)) ∧ Mem wr w' [(t26, [.int .u32 ad, .int .u32 ae, .int .u64 an]), (t24, [.int .u32 xe, .int .u64 xn, .int .u32 xp, .slice oy lx.length cy]), (t21, [.int .u32 (ackD lb), .int .u32 (ackE lb), .int .u64 (ackN lb)]), (t19, [.int .u32 (entE lb), .int .u64 (entN lb), .int .u32 (entP lb), .slice oz (entB lb).length cz]), (t14, [.int .u32 (ackD lb), .int .u32 (ackE lb), .int .u64 (ackN lb)]), (t12, [.int .u32 (entE lb), .int .u64 (entN lb), .int .u32 (entP lb), .slice o12 (entB lb).length c12]), (t9, [.int .u32 xe, .int .u64 xn, .int .u32 xp, .slice o9 lx.length c9]), (w.heap.size + 1 + 1, [.int .u32 me, .int .u64 mn]), (w.heap.size + 1, [.int .u32 ad, .int .u32 ae, .int .u64 an]), (w.heap.size, [.int .u32 xe, .int .u64 xn, .int .u32 xp, .slice A m c])] [(oy, lx.length, cy, lx), (o23, (ackOf ad ae an).length, c23, ackOf ad ae an), (oz, (entB lb).length, cz, entB lb), (o17, ld.length, c17, ld), (o12, (entB lb).length, c12, entB lb), (o10, ld.length, c10, ld), (o9, lx.length, c9, lx), (A, m, c, lx), (ob, nb, cb, lb)] ∧ Mine w' [(o23, (ackOf ad ae an).length, c23, ackOf ad ae an, s21, s23), (oz, (entB lb).length, cz, entB lb, s17, t19), (o17, ld.length, c17, ld, wr.heap.size, s17)]) w1 → Reads w1 oy lx.length cy lx) := Lib.hid (fun w1 h => h.2.1.reads 0 rfl)
      have R9 : Hid (∀ w1 : World, (fun w' => (w'.cell? ⟨t24, 0, none⟩ = some (.int .u32 xe) ∧ w'.cell? ⟨t24, 1, none⟩ = some (.int .u64 xn) ∧ w'.cell? ⟨t24, 2, none⟩ = some (.int .u32 xp) ∧ w'.cell? ⟨t24, 3, none⟩ = some (.slice oy lx.length cy) ∧ w'.cell? ⟨t9, 0, none⟩ = some (.int .u32 xe) ∧ w'.cell? ⟨t9, 1, none⟩ = some (.int .u64 xn) ∧ w'.cell? ⟨t9, 2, none⟩ = some (.int .u32 xp) ∧ w'.cell? ⟨t9, 3, none⟩ = some (.slice o9 lx.length c9) ∧ w'.cell? ⟨t26, 0, none⟩ = some (.int .u32 ad) ∧ w'.cell? ⟨t26, 1, none⟩ = some (.int .u32 ae) ∧ w'.cell? ⟨t26, 2, none⟩ = some (.int .u64 an) ∧ w'.cell? ⟨w.heap.size + 1, 0, none⟩ = some (.int .u32 ad) ∧ w'.cell? ⟨w.heap.size + 1, 1, none⟩ = some (.int .u32 ae) ∧ w'.cell? ⟨w.heap.size + 1, 2, none⟩ = some (.int .u64 an)) ∧ Mem wr w' [(t26, [.int .u32 ad, .int .u32 ae, .int .u64 an]), (t24, [.int .u32 xe, .int .u64 xn, .int .u32 xp, .slice oy lx.length cy]), (t21, [.int .u32 (ackD lb), .int .u32 (ackE lb), .int .u64 (ackN lb)]), (t19, [.int .u32 (entE lb), .int .u64 (entN lb), .int .u32 (entP lb), .slice oz (entB lb).length cz]), (t14, [.int .u32 (ackD lb), .int .u32 (ackE lb), .int .u64 (ackN lb)]), (t12, [.int .u32 (entE lb), .int .u64 (entN lb), .int .u32 (entP lb), .slice o12 (entB lb).length c12]), (t9, [.int .u32 xe, .int .u64 xn, .int .u32 xp, .slice o9 lx.length c9]), (w.heap.size + 1 + 1, [.int .u32 me, .int .u64 mn]), (w.heap.size + 1, [.int .u32 ad, .int .u32 ae, .int .u64 an]), (w.heap.size, [.int .u32 xe, .int .u64 xn, .int .u32 xp, .slice A m c])] [(oy, lx.length, cy, lx), (o23, (ackOf ad ae an).length, c23, ackOf ad ae an), (oz, (entB lb).length, cz, entB lb), (o17, ld.length, c17, ld), (o12, (entB lb).length, c12, entB lb), (o10, ld.length, c10, ld), (o9, lx.length, c9, lx), (A, m, c, lx), (ob, nb, cb, lb)] ∧ Mine w' [(o23, (ackOf ad ae an).length, c23, ackOf ad ae an, s21, s23), (oz, (entB lb).length, cz, entB lb, s17, t19), (o17, ld.length, c17, ld, wr.heap.size, s17)]) w1 → Reads w1 o9 lx.length c9 lx) := Lib.hid (fun w1 h => h.2.1.reads 6 rfl)
      have KM : Hid (∀ w1 : World, (fun w' => (w'.cell? ⟨t24, 0, none⟩ = some (.int .u32 xe) ∧ w'.cell? ⟨t24, 1, none⟩ = some (.int .u64 xn) ∧ w'.cell? ⟨t24, 2, none⟩ = some (.int .u32 xp) ∧ w'.cell? ⟨t24, 3, none⟩ = some (.slice oy lx.length cy) ∧ w'.cell? ⟨t9, 0, none⟩ = some (.int .u32 xe) ∧ w'.cell? ⟨t9, 1, none⟩ = some (.int .u64 xn) ∧ w'.cell? ⟨t9, 2, none⟩ = some (.int .u32 xp) ∧ w'.cell? ⟨t9, 3, none⟩ = some (.slice o9 lx.length c9) ∧ w'.cell? ⟨t26, 0, none⟩ = some (.int .u32 ad) ∧ w'.cell? ⟨t26, 1, none⟩ = some (.int .u32 ae) ∧ w'.cell? ⟨t26, 2, none⟩ = some (.int .u64 an) ∧ w'.cell? ⟨w.heap.size + 1, 0, none⟩ = some (.int .u32 ad) ∧ w'.cell? ⟨w.heap.size + 1, 1, none⟩ = some (.int .u32 ae) ∧ w'.cell? ⟨w.heap.size + 1, 2, none⟩ = some (.int .u64 an)) ∧ Mem wr w' [(t26, [.int .u32 ad, .int .u32 ae, .int .u64 an]), (t24, [.int .u32 xe, .int .u64 xn, .int .u32 xp, .slice oy lx.length cy]), (t21, [.int .u32 (ackD lb), .int .u32 (ackE lb), .int .u64 (ackN lb)]), (t19, [.int .u32 (entE lb), .int .u64 (entN lb), .int .u32 (entP lb), .slice oz (entB lb).length cz]), (t14, [.int .u32 (ackD lb), .int .u32 (ackE lb), .int .u64 (ackN lb)]), (t12, [.int .u32 (entE lb), .int .u64 (entN lb), .int .u32 (entP lb), .slice o12 (entB lb).length c12]), (t9, [.int .u32 xe, .int .u64 xn, .int .u32 xp, .slice o9 lx.length c9]), (w.heap.size + 1 + 1, [.int .u32 me, .int .u64 mn]), (w.heap.size + 1, [.int .u32 ad, .int .u32 ae, .int .u64 an]), (w.heap.size, [.int .u32 xe, .int .u64 xn, .int .u32 xp, .slice A m c])] [(oy, lx.length, cy, lx), (o23, (ackOf ad ae an).length, c23, ackOf ad ae an), (oz, (entB lb).length, cz, entB lb), (o17, ld.length, c17, ld), (o12, (entB lb).length, c12, entB lb), (o10, ld.length, c10, ld), (o9, lx.length, c9, lx), (A, m, c, lx), (ob, nb, cb, lb)] ∧ Mine w' [(o23, (ackOf ad ae an).length, c23, ackOf ad ae an, s21, s23), (oz, (entB lb).length, cz, entB lb, s17, t19), (o17, ld.length, c17, ld, wr.heap.size, s17)]) w1 → Mem wr w1 [(t26, [.int .u32 ad, .int .u32 ae, .int .u64 an]), (t24, [.int .u32 xe, .int .u64 xn, .int .u32 xp, .slice oy lx.length cy]), (t21, [.int .u32 (ackD lb), .int .u32 (ackE lb), .int .u64 (ackN lb)]), (t19, [.int .u32 (entE lb), .int .u64 (entN lb), .int .u32 (entP lb), .slice oz (entB lb).length cz]), (t14, [.int .u32 (ackD lb), .int .u32 (ackE lb), .int .u64 (ackN lb)]), (t12, [.int .u32 (entE lb), .int .u64 (entN lb), .int .u32 (entP lb), .slice o12 (entB lb).length c12]), (t9, [.int .u32 xe, .int .u64 xn, .int .u32 xp, .slice o9 lx.length c9]), (w.heap.size + 1 + 1, [.int .u32 me, .int .u64 mn]), (w.heap.size + 1, [.int .u32 ad, .int .u32 ae, .int .u64 an]), (w.heap.size, [.int .u32 xe, .int .u64 xn, .int .u32 xp, .slice A m c])] [(oy, lx.length, cy, lx), (o23, (ackOf ad ae an).length, c23, ackOf ad ae an), (oz, (entB lb).length, cz, entB lb), (o17, ld.length, c17, ld), (o12, (entB lb).length, c12, entB lb), (o10, ld.length, c10, ld), (o9, lx.length, c9, lx), (A, m, c, lx), (ob, nb, cb, lb)] ∧ Mine w1 [(o23, (ackOf ad ae an).length, c23, ackOf ad ae an, s21, s23), (oz, (entB lb).length, cz, entB lb, s17, t19), (o17, ld.length, c17, ld, wr.heap.size, s17)]) := Lib.hid (fun w1 h => h.2)
      clear N D
      generalize hQ : Exit.then _ _ = Q
      have HQ := Lib.hid hQ
      clear hQ
      refine wp_region_noPanic ?_
      refine wp_region_held_drew (S := fun w' => (w'.cell? ⟨t24, 0, none⟩ = some (.int .u32 xe) ∧ w'.cell? ⟨t24, 1, none⟩ = some (.int .u64 xn) ∧ w'.cell? ⟨t24, 2, none⟩ = some (.int .u32 xp) ∧ w'.cell? ⟨t24, 3, none⟩ = some (.slice oy lx.length cy) ∧ w'.cell? ⟨t9, 0, none⟩ = some (.int .u32 xe) ∧ w'.cell? ⟨t9, 1, none⟩ = some (.int .u64 xn) ∧ w'.cell? ⟨t9, 2, none⟩ = some (.int .u32 xp) ∧ w'.cell? ⟨t9, 3, none⟩ = some (.slice o9 lx.length c9) ∧ w'.cell? ⟨t26, 0, none⟩ = some (.int .u32 ad) ∧ w'.cell? ⟨t26, 1, none⟩ = some (.int .u32 ae) ∧ w'.cell? ⟨t26, 2, none⟩ = some (.int .u64 an) ∧ w'.cell? ⟨w.heap.size + 1, 0, none⟩ = some (.int .u32 ad) ∧ w'.cell? ⟨w.heap.size + 1, 1, none⟩ = some (.int .u32 ae) ∧ w'.cell? ⟨w.heap.size + 1, 2, none⟩ = some (.int .u64 an)) ∧ Mem wr w' [(t26, [.int .u32 ad, .int .u32 ae, .int .u64 an]), (t24, [.int .u32 xe, .int .u64 xn, .int .u32 xp, .slice oy lx.length cy]), (t21, [.int .u32 (ackD lb), .int .u32 (ackE lb), .int .u64 (ackN lb)]), (t19, [.int .u32 (entE lb), .int .u64 (entN lb), .int .u32 (entP lb), .slice oz (entB lb).length cz]), (t14, [.int .u32 (ackD lb), .int .u32 (ackE lb), .int .u64 (ackN lb)]), (t12, [.int .u32 (entE lb), .int .u64 (entN lb), .int .u32 (entP lb), .slice o12 (entB lb).length c12]), (t9, [.int .u32 xe, .int .u64 xn, .int .u32 xp, .slice o9 lx.length c9]), (w.heap.size + 1 + 1, [.int .u32 me, .int .u64 mn]), (w.heap.size + 1, [.int .u32 ad, .int .u32 ae, .int .u64 an]), (w.heap.size, [.int .u32 xe, .int .u64 xn, .int .u32 xp, .slice A m c])] [(oy, lx.length, cy, lx), (o23, (ackOf ad ae an).length, c23, ackOf ad ae an), (oz, (entB lb).length, cz, entB lb), (o17, ld.length, c17, ld), (o12, (entB lb).length, c12, entB lb), (o10, ld.length, c10, ld), (o9, lx.length, c9, lx), (A, m, c, lx), (ob, nb, cb, lb)] ∧ Mine w' [(o23, (ackOf ad ae an).length, c23, ackOf ad ae an, s21, s23), (oz, (entB lb).length, cz, entB lb, s17, t19), (o17, ld.length, c17, ld, wr.heap.size, s17)]) (by kernel_rfl) (KS.out _ _ HS0.out (Below.refl _ _).drew) (fun hHeld => ?_)
      refine wpAnyH_take (i := 0) (oi := { dst := some 126, op := Op.move (Operand.tmp 25), type := 34, pos := "law.go:112", after := #[], guard := none }) (v := ?_) rfl (by kernel_rfl) (by kernel_rfl) (by kernel_rfl) (fun _ _ _ h => h) (Or.inl ⟨by rfl, ?_⟩) hHeld ?_
      rotate_left
      · intro w hSw; (try dsimp only at hSw); go_simp; try (with_reducible rfl)
      simp only [Act.put, List.setIfInBounds_toArray, List.set_cons_zero, List.set_cons_succ]
      refine wpAnyH_take (i := 1) (oi := { dst := some 127, op := Op.binOp BinOp.neq 34 (Operand.tmp 126) (Operand.const (Value.int IntKind.i64 0)) 34, type := 4, pos := "law.go:112", after := #[{ on := 0, ground := Ground.data }], guard := none }) (v := ?_) rfl (by kernel_rfl) (by kernel_rfl) (by kernel_rfl) (fun _ _ _ h => h) (Or.inl ⟨by rfl, ?_⟩) hHeld ?_
      rotate_left
      · intro w hSw; (try dsimp only at hSw); go_simp; try (with_reducible rfl)
      simp only [Act.put, List.setIfInBounds_toArray, List.set_cons_zero, List.set_cons_succ]
      refine wpAnyH_take (i := 2) (oi := { dst := some 128, op := Op.move (Operand.tmp 127), type := 4, pos := "law.go:112", after := #[{ on := 1, ground := Ground.data }], guard := none }) (v := ?_) rfl (by kernel_rfl) (by kernel_rfl) (by kernel_rfl) (fun _ _ _ h => h) (Or.inl ⟨by rfl, ?_⟩) hHeld ?_
      rotate_left
      · intro w hSw; (try dsimp only at hSw); go_simp; try (with_reducible rfl)
      simp only [Act.put, List.setIfInBounds_toArray, List.set_cons_zero, List.set_cons_succ]
      refine wpAnyH_take (i := 3) (oi := { dst := some 129, op := Op.move (Operand.tmp 18), type := 34, pos := "law.go:112", after := #[{ on := 2, ground := Ground.guard }], guard := some (2, true) }) (v := undef) rfl (by kernel_rfl) (by kernel_rfl) (by kernel_rfl) (fun _ _ _ h => h) (Or.inr ⟨by rfl, rfl⟩) hHeld ?_
      simp only [Act.put, List.setIfInBounds_toArray, List.set_cons_zero, List.set_cons_succ]
      refine wpAnyH_take (i := 4) (oi := { dst := some 130, op := Op.binOp BinOp.eql 34 (Operand.tmp 129) (Operand.const (Value.int IntKind.i64 0)) 34, type := 4, pos := "law.go:112", after := #[{ on := 3, ground := Ground.data }, { on := 2, ground := Ground.guard }], guard := some (2, true) }) (v := undef) rfl (by kernel_rfl) (by kernel_rfl) (by kernel_rfl) (fun _ _ _ h => h) (Or.inr ⟨by rfl, rfl⟩) hHeld ?_
      simp only [Act.put, List.setIfInBounds_toArray, List.set_cons_zero, List.set_cons_succ]
      refine wpAnyH_take (i := 5) (oi := { dst := some 131, op := Op.pick (Operand.tmp 128) (Operand.tmp 130) (Operand.const (Value.bool false)), type := 4, pos := "law.go:112", after := #[{ on := 2, ground := Ground.data }, { on := 4, ground := Ground.data }], guard := none }) (v := ?_) rfl (by kernel_rfl) (by kernel_rfl) (by kernel_rfl) (fun _ _ _ h => h) (Or.inl ⟨by rfl, ?_⟩) hHeld ?_
      rotate_left
      · intro w hSw; (try dsimp only at hSw); go_simp; try (with_reducible rfl)
      simp only [Act.put, List.setIfInBounds_toArray, List.set_cons_zero, List.set_cons_succ]
      refine wpAnyH_take (i := 6) (oi := { dst := some 132, op := Op.move (Operand.tmp 131), type := 4, pos := "law.go:112", after := #[{ on := 5, ground := Ground.data }, { on := 2, ground := Ground.chain }], guard := none }) (v := ?_) rfl (by kernel_rfl) (by kernel_rfl) (by kernel_rfl) (fun _ _ _ h => h) (Or.inl ⟨by rfl, ?_⟩) hHeld ?_
      rotate_left
      · intro w hSw; (try dsimp only at hSw); go_simp; try (with_reducible rfl)
      simp only [Act.put, List.setIfInBounds_toArray, List.set_cons_zero, List.set_cons_succ]
      refine wpAnyH_take (i := 7) (oi := { dst := some 133, op := Op.move (Operand.tmp 18), type := 34, pos := "law.go:112", after := #[{ on := 6, ground := Ground.guard }], guard := some (6, false) }) (v := ?_) rfl (by kernel_rfl) (by kernel_rfl) (by kernel_rfl) (fun _ _ _ h => h) (Or.inl ⟨by rfl, ?_⟩) hHeld ?_
      rotate_left
      · intro w hSw; (try dsimp only at hSw); go_simp; try (with_reducible rfl)
      simp only [Act.put, List.setIfInBounds_toArray, List.set_cons_zero, List.set_cons_succ]
      refine wpAnyH_take (i := 8) (oi := { dst := some 134, op := Op.binOp BinOp.eql 34 (Operand.tmp 133) (Operand.const (Value.int IntKind.i64 0)) 34, type := 4, pos := "law.go:112", after := #[{ on := 7, ground := Ground.data }, { on := 6, ground := Ground.guard }], guard := some (6, false) }) (v := ?_) rfl (by kernel_rfl) (by kernel_rfl) (by kernel_rfl) (fun _ _ _ h => h) (Or.inl ⟨by rfl, ?_⟩) hHeld ?_
      rotate_left
      · intro w hSw; (try dsimp only at hSw); go_simp; try (with_reducible rfl)
      simp only [Act.put, List.setIfInBounds_toArray, List.set_cons_zero, List.set_cons_succ]
      refine wpAnyH_take (i := 9) (oi := { dst := some 135, op := Op.move (Operand.tmp 134), type := 4, pos := "law.go:112", after := #[{ on := 8, ground := Ground.data }, { on := 6, ground := Ground.chain }, { on := 6, ground := Ground.guard }], guard := some (6, false) }) (v := ?_) rfl (by kernel_rfl) (by kernel_rfl) (by kernel_rfl) (fun _ _ _ h => h) (Or.inl ⟨by rfl, ?_⟩) hHeld ?_
      rotate_left
      · intro w hSw; (try dsimp only at hSw); go_simp; try (with_reducible rfl)
      simp only [Act.put, List.setIfInBounds_toArray, List.set_cons_zero, List.set_cons_succ]
      refine wpAnyH_take (i := 10) (oi := { dst := some 136, op := Op.load 26 (Operand.tmp 24), type := 26, pos := "law.go:112", after := #[{ on := 9, ground := Ground.guard }], guard := some (9, true) }) (v := ?_) rfl (by kernel_rfl) (by kernel_rfl) (by kernel_rfl) (fun _ _ _ h => h) (Or.inl ⟨by rfl, ?_⟩) hHeld ?_
      rotate_left
      · intro w hSw; (try dsimp only at hSw); go_simp; try (with_reducible rfl)
      simp only [Act.put, List.setIfInBounds_toArray, List.set_cons_zero, List.set_cons_succ]
      refine wpAnyH_take (i := 12) (oi := { dst := some 138, op := Op.load 32 (Operand.tmp 9), type := 32, pos := "law.go:112", after := #[{ on := 9, ground := Ground.guard }], guard := some (9, true) }) (v := ?_) rfl (by kernel_rfl) (by kernel_rfl) (by kernel_rfl) (fun _ _ _ h => h) (Or.inl ⟨by rfl, ?_⟩) hHeld ?_
      rotate_left
      · intro w hSw; (try dsimp only at hSw); go_simp; try (with_reducible rfl)
      simp only [Act.put, List.setIfInBounds_toArray, List.set_cons_zero, List.set_cons_succ]
      refine wpAnyH_ready (rs := [11]) (by kernel_rfl) (by simp) ?_
      refine AllReadyH.cons (o := { dst := some 137, op := Op.call { callee := Callee.value (Operand.func 5), args := #[Operand.tmp 136], argTypes := #[26] }, type := 32, pos := "law.go:112", after := #[{ on := 10, ground := Ground.data }, { on := 9, ground := Ground.chain }, { on := 9, ground := Ground.guard }], guard := some (9, true) }) rfl (fun K hK => ?_) AllReadyH.nil
      go_simp
      refine Calls.mono (docsentry_any xe xn xp oy _ cy lx _ (RY.out _ hHeld) LX) ?_
      rintro en w' ⟨o92, c92, rfl, ho92, hb⟩
      have R92 := ho92.reads LXB.out
      refine hK.out _ _ (KS.out _ _ hHeld hb) (fun hHeld2 => ?_)
      clear hK K hHeld
      have hHeld := hHeld2
      clear hHeld2
      try simp only [Act.put, List.setIfInBounds_toArray, List.set_cons_zero, List.set_cons_succ]
      refine wpAnyH_ready (rs := [13]) (by kernel_rfl) (by simp) ?_
      refine AllReadyH.cons (o := { dst := some 139, op := Op.call { callee := Callee.value (Operand.func 14), args := #[Operand.tmp 137, Operand.tmp 138], argTypes := #[32, 32] }, type := 4, pos := "law.go:112", after := #[{ on := 11, ground := Ground.data }, { on := 12, ground := Ground.data }, { on := 11, ground := Ground.chain }, { on := 9, ground := Ground.guard }], guard := some (9, true) }) rfl (fun K hK => ?_) AllReadyH.nil
      go_simp
      refine Calls.mono (same14_any xe xn xp o92 _ c92 o9 _ c9 lx _ R92 (R9.out _ hHeld)) ?_
      rintro en w' ⟨rfl, hb⟩
      refine hK.out _ _ (KS.out _ _ hHeld hb) (fun hHeld2 => ?_)
      clear hK K hHeld
      have hHeld := hHeld2
      clear hHeld2
      try simp only [Act.put, List.setIfInBounds_toArray, List.set_cons_zero, List.set_cons_succ]
      refine wpAnyH_take (i := 14) (oi := { dst := some 140, op := Op.unOp UnOp.not 4 (Operand.tmp 139), type := 4, pos := "law.go:112", after := #[{ on := 13, ground := Ground.data }, { on := 9, ground := Ground.guard }], guard := some (9, true) }) (v := ?_) rfl (by kernel_rfl) (by kernel_rfl) (by kernel_rfl) (fun _ _ _ h => h) (Or.inl ⟨by rfl, ?_⟩) hHeld ?_
      rotate_left
      · intro w hSw; (try dsimp only at hSw); go_simp; try (with_reducible rfl)
      simp only [Act.put, List.setIfInBounds_toArray, List.set_cons_zero, List.set_cons_succ]
      refine wpAnyH_take (i := 15) (oi := { dst := some 141, op := Op.pick (Operand.tmp 135) (Operand.tmp 140) (Operand.const (Value.bool false)), type := 4, pos := "law.go:112", after := #[{ on := 9, ground := Ground.data }, { on := 14, ground := Ground.data }, { on := 6, ground := Ground.guard }], guard := some (6, false) }) (v := ?_) rfl (by kernel_rfl) (by kernel_rfl) (by kernel_rfl) (fun _ _ _ h => h) (Or.inl ⟨by rfl, ?_⟩) hHeld ?_
      rotate_left
      · intro w hSw; (try dsimp only at hSw); go_simp; try (with_reducible rfl)
      simp only [Act.put, List.setIfInBounds_toArray, List.set_cons_zero, List.set_cons_succ]
      refine wpAnyH_take (i := 16) (oi := { dst := some 142, op := Op.pick (Operand.tmp 132) (Operand.const (Value.bool true)) (Operand.tmp 141), type := 4, pos := "law.go:112", after := #[{ on := 6, ground := Ground.data }, { on := 15, ground := Ground.data }], guard := none }) (v := ?_) rfl (by kernel_rfl) (by kernel_rfl) (by kernel_rfl) (fun _ _ _ h => h) (Or.inl ⟨by rfl, ?_⟩) hHeld ?_
      rotate_left
      · intro w hSw; (try dsimp only at hSw); go_simp; try (with_reducible rfl)
      simp only [Act.put, List.setIfInBounds_toArray, List.set_cons_zero, List.set_cons_succ]
      refine wpAnyH_take (i := 17) (oi := { dst := some 143, op := Op.move (Operand.tmp 142), type := 4, pos := "law.go:112", after := #[{ on := 16, ground := Ground.data }, { on := 13, ground := Ground.chain }], guard := none }) (v := ?_) rfl (by kernel_rfl) (by kernel_rfl) (by kernel_rfl) (fun _ _ _ h => h) (Or.inl ⟨by rfl, ?_⟩) hHeld ?_
      rotate_left
      · intro w hSw; (try dsimp only at hSw); go_simp; try (with_reducible rfl)
      simp only [Act.put, List.setIfInBounds_toArray, List.set_cons_zero, List.set_cons_succ]
      refine wpAnyH_take (i := 18) (oi := { dst := some 144, op := Op.move (Operand.tmp 27), type := 34, pos := "law.go:112", after := #[{ on := 17, ground := Ground.guard }], guard := some (17, false) }) (v := ?_) rfl (by kernel_rfl) (by kernel_rfl) (by kernel_rfl) (fun _ _ _ h => h) (Or.inl ⟨by rfl, ?_⟩) hHeld ?_
      rotate_left
      · intro w hSw; (try dsimp only at hSw); go_simp; try (with_reducible rfl)
      simp only [Act.put, List.setIfInBounds_toArray, List.set_cons_zero, List.set_cons_succ]
      refine wpAnyH_take (i := 19) (oi := { dst := some 145, op := Op.binOp BinOp.neq 34 (Operand.tmp 144) (Operand.const (Value.int IntKind.i64 0)) 34, type := 4, pos := "law.go:112", after := #[{ on := 18, ground := Ground.data }, { on := 17, ground := Ground.guard }], guard := some (17, false) }) (v := ?_) rfl (by kernel_rfl) (by kernel_rfl) (by kernel_rfl) (fun _ _ _ h => h) (Or.inl ⟨by rfl, ?_⟩) hHeld ?_
      rotate_left
      · intro w hSw; (try dsimp only at hSw); go_simp; try (with_reducible rfl)
      simp only [Act.put, List.setIfInBounds_toArray, List.set_cons_zero, List.set_cons_succ]
      refine wpAnyH_take (i := 20) (oi := { dst := some 146, op := Op.pick (Operand.tmp 143) (Operand.const (Value.bool true)) (Operand.tmp 145), type := 4, pos := "law.go:112", after := #[{ on := 17, ground := Ground.data }, { on := 19, ground := Ground.data }], guard := none }) (v := ?_) rfl (by kernel_rfl) (by kernel_rfl) (by kernel_rfl) (fun _ _ _ h => h) (Or.inl ⟨by rfl, ?_⟩) hHeld ?_
      rotate_left
      · intro w hSw; (try dsimp only at hSw); go_simp; try (with_reducible rfl)
      simp only [Act.put, List.setIfInBounds_toArray, List.set_cons_zero, List.set_cons_succ]
      refine wpAnyH_take (i := 21) (oi := { dst := some 147, op := Op.move (Operand.tmp 146), type := 4, pos := "law.go:112", after := #[{ on := 20, ground := Ground.data }, { on := 17, ground := Ground.chain }], guard := none }) (v := ?_) rfl (by kernel_rfl) (by kernel_rfl) (by kernel_rfl) (fun _ _ _ h => h) (Or.inl ⟨by rfl, ?_⟩) hHeld ?_
      rotate_left
      · intro w hSw; (try dsimp only at hSw); go_simp; try (with_reducible rfl)
      simp only [Act.put, List.setIfInBounds_toArray, List.set_cons_zero, List.set_cons_succ]
      refine wpAnyH_take (i := 22) (oi := { dst := some 148, op := Op.load 30 (Operand.tmp 26), type := 30, pos := "law.go:112", after := #[{ on := 21, ground := Ground.guard }], guard := some (21, false) }) (v := ?_) rfl (by kernel_rfl) (by kernel_rfl) (by kernel_rfl) (fun _ _ _ h => h) (Or.inl ⟨by rfl, ?_⟩) hHeld ?_
      rotate_left
      · intro w hSw; (try dsimp only at hSw); go_simp; try (with_reducible rfl)
      simp only [Act.put, List.setIfInBounds_toArray, List.set_cons_zero, List.set_cons_succ]
      refine wpAnyH_take (i := 23) (oi := { dst := some 149, op := Op.load 30 (Operand.tmp 5), type := 30, pos := "law.go:112", after := #[{ on := 21, ground := Ground.guard }], guard := some (21, false) }) (v := ?_) rfl (by kernel_rfl) (by kernel_rfl) (by kernel_rfl) (fun _ _ _ h => h) (Or.inl ⟨by rfl, ?_⟩) hHeld ?_
      rotate_left
      · intro w hSw; (try dsimp only at hSw); go_simp; try (with_reducible rfl)
      simp only [Act.put, List.setIfInBounds_toArray, List.set_cons_zero, List.set_cons_succ]
      refine wpAnyH_take (i := 24) (oi := { dst := some 150, op := Op.binOp BinOp.neq 30 (Operand.tmp 148) (Operand.tmp 149) 30, type := 4, pos := "law.go:112", after := #[{ on := 22, ground := Ground.data }, { on := 23, ground := Ground.data }, { on := 21, ground := Ground.guard }], guard := some (21, false) }) (v := ?_) rfl (by kernel_rfl) (by kernel_rfl) (by kernel_rfl) (fun _ _ _ h => h) (Or.inl ⟨by rfl, ?_⟩) hHeld ?_
      rotate_left
      · intro w hSw; (try dsimp only at hSw); go_simp; try (with_reducible rfl)
      simp only [Act.put, List.setIfInBounds_toArray, List.set_cons_zero, List.set_cons_succ]
      refine wpAnyH_take (i := 25) (oi := { dst := some 151, op := Op.pick (Operand.tmp 147) (Operand.const (Value.bool true)) (Operand.tmp 150), type := 4, pos := "law.go:112", after := #[{ on := 21, ground := Ground.data }, { on := 24, ground := Ground.data }], guard := none }) (v := ?_) rfl (by kernel_rfl) (by kernel_rfl) (by kernel_rfl) (fun _ _ _ h => h) (Or.inl ⟨by rfl, ?_⟩) hHeld ?_
      rotate_left
      · intro w hSw; (try dsimp only at hSw); go_simp; try (with_reducible rfl)
      simp only [Act.put, List.setIfInBounds_toArray, List.set_cons_zero, List.set_cons_succ]
      refine wpAnyH_done (by kernel_rfl) ?_ _
      refine NoPanic.normal ?_
      have hS : Mem wr w' [(t26, [.int .u32 ad, .int .u32 ae, .int .u64 an]), (t24, [.int .u32 xe, .int .u64 xn, .int .u32 xp, .slice oy lx.length cy]), (t21, [.int .u32 (ackD lb), .int .u32 (ackE lb), .int .u64 (ackN lb)]), (t19, [.int .u32 (entE lb), .int .u64 (entN lb), .int .u32 (entP lb), .slice oz (entB lb).length cz]), (t14, [.int .u32 (ackD lb), .int .u32 (ackE lb), .int .u64 (ackN lb)]), (t12, [.int .u32 (entE lb), .int .u64 (entN lb), .int .u32 (entP lb), .slice o12 (entB lb).length c12]), (t9, [.int .u32 xe, .int .u64 xn, .int .u32 xp, .slice o9 lx.length c9]), (w.heap.size + 1 + 1, [.int .u32 me, .int .u64 mn]), (w.heap.size + 1, [.int .u32 ad, .int .u32 ae, .int .u64 an]), (w.heap.size, [.int .u32 xe, .int .u64 xn, .int .u32 xp, .slice A m c])] [(oy, lx.length, cy, lx), (o23, (ackOf ad ae an).length, c23, ackOf ad ae an), (oz, (entB lb).length, cz, entB lb), (o17, ld.length, c17, ld), (o12, (entB lb).length, c12, entB lb), (o10, ld.length, c10, ld), (o9, lx.length, c9, lx), (A, m, c, lx), (ob, nb, cb, lb)] ∧ Mine w' [(o23, (ackOf ad ae an).length, c23, ackOf ad ae an, s21, s23), (oz, (entB lb).length, cz, entB lb, s17, t19), (o17, ld.length, c17, ld, wr.heap.size, s17)] := KM.out w' hHeld
      have N := Lib.hid hS.1
      have D := Lib.hid hS.2
      rw [← HQ.out]
      clear hHeld hS HS0 KS RY R9 KM LXB
      generalize w' = w1 at *
      go_wp2_with fail
      refine Calls.mono (spoil_any o17 _ c17 wr.heap.size _ _ (D.out.at 2 rfl).1 (by have := HLD.out; omega)) ?_
      rintro en w3 ⟨rfl, hg, hsz⟩
      have hne1 : ∀ a b, o23 = some a → o17 = some b → a.block ≠ b.block := fun a b ha hb => by have h1 := ((D.out.at 0 rfl).1.lt ha).1; have h2 := (D.out.at 2 rfl).2 b hb; omega
      have hne2 : ∀ a b, oz = some a → o17 = some b → a.block ≠ b.block := fun a b ha hb => by have h1 := ((D.out.at 1 rfl).1.lt ha).1; have h2 := (D.out.at 2 rfl).2 b hb; omega
      have hne3 : ∀ a b, oz = some a → o23 = some b → a.block ≠ b.block := fun a b ha hb => by have h1 := ((D.out.at 0 rfl).1.lt hb).1; have h2 := (D.out.at 1 rfl).2 a ha; omega
      have hne4 : ∀ b, o17 = some b → t19 ≠ b.block := fun b hb => by have h2 := (D.out.at 2 rfl).2 b hb; omega
      have hne5 : ∀ b, o23 = some b → t19 ≠ b.block := fun b hb => by have h1 := ((D.out.at 0 rfl).1.lt hb).1; omega
      have toRow : ∀ (b : Option Addr) (n : Nat), (∀ a, b = some a → n ≠ a.block) → some n ≠ b.map Addr.block := fun b n h e => by
        obtain ⟨a, e1, e2⟩ := Option.map_eq_some_iff.1 e.symm
        exact h a e1 e2.symm
      have P3 := Lib.hid ((D.out.at 0 rfl).1.grown hg (fun a ha => toRow _ _ (fun b hb => hne1 a b ha hb)))
      have Z3 := Lib.hid ((D.out.at 1 rfl).1.grown hg (fun a ha => toRow _ _ (fun b hb => hne2 a b ha hb)))
      have B3 := Lib.hid (Below.appended N.out.out (D.out.at 2 rfl).1 (Nat.le_refl _) hg N.out.out.size)
      have e3 := World.cell?_of_block (a := ⟨t19, 3, none⟩) (hg.block t19 (N.out.lt 3 rfl) (toRow _ _ hne4))
      have Y3 := Lib.hid (e3.trans (N.out.at 3 3 rfl rfl))
      have L3 : t19 < w3.heap.size := by rw [hsz]; exact N.out.lt 3 rfl
      have SR := Lib.hid (Nat.le_trans N.out.out.size hg.size)
      have HN3 := Lib.hid hne3
      have HN5 := Lib.hid hne5
      have TR := Lib.hid toRow
      have lo23 := Lib.hid (D.out.at 0 rfl).1
      have loz := Lib.hid (D.out.at 1 rfl).1
      have LS21 : wr.heap.size ≤ s17 := (D.out.at 2 rfl).1 |> fun _ => LS17
      clear hg hsz hne1 hne2 hne3 hne4 hne5 e3 toRow N D
      go_wp2_with fail
      refine Calls.mono (spoil_any o23 _ c23 s21 _ _ P3.out (by rw [ackOf_len]; omega)) ?_
      rintro en w4 ⟨rfl, hg, hsz⟩
      have Z4 := Lib.hid (Z3.out.grown hg (fun a ha => TR.out _ _ (fun b hb => HN3.out a b ha hb)))
      have B4 := Lib.hid (Below.appended B3.out P3.out (by omega) hg B3.out.size)
      have e4 := World.cell?_of_block (a := ⟨t19, 3, none⟩) (hg.block t19 L3 (TR.out _ _ HN5.out))
      have y4 := e4.trans Y3.out
      clear hg hsz e4
      go_wp2_with fail
      clear y4
      refine Calls.mono (spoil_any oz _ cz s17 _ _ Z4.out (by omega)) ?_
      rintro en w5 ⟨rfl, hg, hsz⟩
      have B5 := Lib.hid (Below.appended B4.out Z4.out (by omega) hg B4.out.size)
      clear hg hsz
      go_wp2_with fail
      go_roundw
      case rel => exact ⟨k + 1, by omega, by go_num, Lib.hid (M.out.go B5.out)⟩
      case measure => simp [intOf]; omega
    · have HLE := Lib.hid hld
      have fx1 : (fx == 0) = false := by rw [hfx]; rfl
      have fx2 : (fx != 0) = true := by rw [hfx]; rfl
      clear HC hld hfx
      refine Calls.mono (back_no2 ld HLE.out o17 c17 _ (N.out.reads 2 rfl)) ?_
      rintro en w3 ⟨oy, cy, rfl, ho, hb2⟩
      have N2 := Lib.hid ((N.out.go hb2).rowed (ho.reads (by simp)))
      have D2 := Lib.hid (D.out.go hb2)
      clear N ho hb2 D
      have N := N2
      have D := D2
      clear N2 D2
      go_wp2_with fail
      refine Calls.fresh (fun w1 => Hid (Mem wr w1 [(w3.heap.size, [.int .u32 0, .int .u64 0, .int .u32 0, .slice oy 0 cy]), (t21, [.int .u32 (ackD lb), .int .u32 (ackE lb), .int .u64 (ackN lb)]), (t19, [.int .u32 (entE lb), .int .u64 (entN lb), .int .u32 (entP lb), .slice oz (entB lb).length cz]), (t14, [.int .u32 (ackD lb), .int .u32 (ackE lb), .int .u64 (ackN lb)]), (t12, [.int .u32 (entE lb), .int .u64 (entN lb), .int .u32 (entP lb), .slice o12 (entB lb).length c12]), (t9, [.int .u32 xe, .int .u64 xn, .int .u32 xp, .slice o9 lx.length c9]), (w.heap.size + 1 + 1, [.int .u32 me, .int .u64 mn]), (w.heap.size + 1, [.int .u32 ad, .int .u32 ae, .int .u64 an]), (w.heap.size, [.int .u32 xe, .int .u64 xn, .int .u32 xp, .slice A m c])] [(oy, 0, cy, []), (o23, (ackOf ad ae an).length, c23, ackOf ad ae an), (oz, (entB lb).length, cz, entB lb), (o17, ld.length, c17, ld), (o12, (entB lb).length, c12, entB lb), (o10, ld.length, c10, ld), (o9, lx.length, c9, lx), (A, m, c, lx), (ob, nb, cb, lb)]) ∧ Hid (Mine w1 [(o23, (ackOf ad ae an).length, c23, ackOf ad ae an, s21, s23), (oz, (entB lb).length, cz, entB lb, s17, t19), (o17, ld.length, c17, ld, wr.heap.size, s17)])) ?_ ?_
      · have M0 := N.out.box #[.int .u32 0, .int .u64 0, .int .u32 0, .slice oy 0 cy] 26
        simp only [World.size_alloc] at M0
        exact ⟨Lib.hid M0, Lib.hid (D.out.go ((Below.refl _ _).alloc (Nat.le_refl _) _))⟩
      clear N D
      rintro w1 ⟨N, D⟩
      generalize w3.heap.size = t24 at *
      clear w3
      refine Calls.mono (back_ack ad ae an o23 c23 w1 (N.out.reads 1 rfl) HAD.out HAE.out HAN.out) ?_
      rintro en w3 ⟨rfl, hb2⟩
      have N2 := Lib.hid (N.out.go hb2)
      have D2 := Lib.hid (D.out.go hb2)
      clear N hb2 D
      have N := N2
      have D := D2
      clear N2 D2
      go_wp2_with fail
      refine Code.fresh (fun w1 => Hid (Mem wr w1 [(w3.heap.size, [.int .u32 ad, .int .u32 ae, .int .u64 an]), (t24, [.int .u32 0, .int .u64 0, .int .u32 0, .slice oy 0 cy]), (t21, [.int .u32 (ackD lb), .int .u32 (ackE lb), .int .u64 (ackN lb)]), (t19, [.int .u32 (entE lb), .int .u64 (entN lb), .int .u32 (entP lb), .slice oz (entB lb).length cz]), (t14, [.int .u32 (ackD lb), .int .u32 (ackE lb), .int .u64 (ackN lb)]), (t12, [.int .u32 (entE lb), .int .u64 (entN lb), .int .u32 (entP lb), .slice o12 (entB lb).length c12]), (t9, [.int .u32 xe, .int .u64 xn, .int .u32 xp, .slice o9 lx.length c9]), (w.heap.size + 1 + 1, [.int .u32 me, .int .u64 mn]), (w.heap.size + 1, [.int .u32 ad, .int .u32 ae, .int .u64 an]), (w.heap.size, [.int .u32 xe, .int .u64 xn, .int .u32 xp, .slice A m c])] [(oy, 0, cy, []), (o23, (ackOf ad ae an).length, c23, ackOf ad ae an), (oz, (entB lb).length, cz, entB lb), (o17, ld.length, c17, ld), (o12, (entB lb).length, c12, entB lb), (o10, ld.length, c10, ld), (o9, lx.length, c9, lx), (A, m, c, lx), (ob, nb, cb, lb)]) ∧ Hid (Mine w1 [(o23, (ackOf ad ae an).length, c23, ackOf ad ae an, s21, s23), (oz, (entB lb).length, cz, entB lb, s17, t19), (o17, ld.length, c17, ld, wr.heap.size, s17)])) ?_ ?_
      · have M0 := N.out.box #[.int .u32 ad, .int .u32 ae, .int .u64 an] 30
        simp only [World.size_alloc] at M0
        exact ⟨Lib.hid M0, Lib.hid (D.out.go ((Below.refl _ _).alloc (Nat.le_refl _) _))⟩
      clear N D
      rintro w1 ⟨N, D⟩
      generalize w3.heap.size = t26 at *
      clear w3
      have q30 := neq30
      have v00 := N.out.at 1 0 rfl rfl
      have v01 := N.out.at 1 1 rfl rfl
      have v02 := N.out.at 1 2 rfl rfl
      have v03 := N.out.at 1 3 rfl rfl
      have vl0 := N.out.lt 1 rfl
      have v10 := N.out.at 6 0 rfl rfl
      have v11 := N.out.at 6 1 rfl rfl
      have v12 := N.out.at 6 2 rfl rfl
      have v13 := N.out.at 6 3 rfl rfl
      have vl1 := N.out.lt 6 rfl
      have v20 := N.out.at 0 0 rfl rfl
      have v21 := N.out.at 0 1 rfl rfl
      have v22 := N.out.at 0 2 rfl rfl
      have vl2 := N.out.lt 0 rfl
      have v30 := N.out.at 8 0 rfl rfl
      have v31 := N.out.at 8 1 rfl rfl
      have v32 := N.out.at 8 2 rfl rfl
      have vl3 := N.out.lt 8 rfl
      refine wp_region_later (by kernel_rfl) (by kernel_rfl) ?_
      repeat go_big_quiet_step (fail)
      refine wpQuiet_nil ?_
      intro x
      have N2 := Lib.hid (N.out.go x.below)
      have D2 := Lib.hid (D.out.go x.below)
      clear N D v00 v01 v02 v03 v10 v11 v12 v13 v20 v21 v22 v30 v31 v32 vl0 vl1 vl2 vl3
      have N := N2
      have D := D2
      clear N2 D2
      generalize x.world = w4 at *
      clear x w1
      obtain ⟨w1, hw1⟩ : ∃ w1, w1 = w4 := ⟨_, rfl⟩
      subst hw1
      go_wp2_with fail
      refine Calls.mono (spoil_any o17 _ c17 wr.heap.size _ _ (D.out.at 2 rfl).1 (by have := HLD.out; omega)) ?_
      rintro en w3 ⟨rfl, hg, hsz⟩
      have hne1 : ∀ a b, o23 = some a → o17 = some b → a.block ≠ b.block := fun a b ha hb => by have h1 := ((D.out.at 0 rfl).1.lt ha).1; have h2 := (D.out.at 2 rfl).2 b hb; omega
      have hne2 : ∀ a b, oz = some a → o17 = some b → a.block ≠ b.block := fun a b ha hb => by have h1 := ((D.out.at 1 rfl).1.lt ha).1; have h2 := (D.out.at 2 rfl).2 b hb; omega
      have hne3 : ∀ a b, oz = some a → o23 = some b → a.block ≠ b.block := fun a b ha hb => by have h1 := ((D.out.at 0 rfl).1.lt hb).1; have h2 := (D.out.at 1 rfl).2 a ha; omega
      have hne4 : ∀ b, o17 = some b → t19 ≠ b.block := fun b hb => by have h2 := (D.out.at 2 rfl).2 b hb; omega
      have hne5 : ∀ b, o23 = some b → t19 ≠ b.block := fun b hb => by have h1 := ((D.out.at 0 rfl).1.lt hb).1; omega
      have toRow : ∀ (b : Option Addr) (n : Nat), (∀ a, b = some a → n ≠ a.block) → some n ≠ b.map Addr.block := fun b n h e => by
        obtain ⟨a, e1, e2⟩ := Option.map_eq_some_iff.1 e.symm
        exact h a e1 e2.symm
      have P3 := Lib.hid ((D.out.at 0 rfl).1.grown hg (fun a ha => toRow _ _ (fun b hb => hne1 a b ha hb)))
      have Z3 := Lib.hid ((D.out.at 1 rfl).1.grown hg (fun a ha => toRow _ _ (fun b hb => hne2 a b ha hb)))
      have B3 := Lib.hid (Below.appended N.out.out (D.out.at 2 rfl).1 (Nat.le_refl _) hg N.out.out.size)
      have e3 := World.cell?_of_block (a := ⟨t19, 3, none⟩) (hg.block t19 (N.out.lt 3 rfl) (toRow _ _ hne4))
      have Y3 := Lib.hid (e3.trans (N.out.at 3 3 rfl rfl))
      have L3 : t19 < w3.heap.size := by rw [hsz]; exact N.out.lt 3 rfl
      have SR := Lib.hid (Nat.le_trans N.out.out.size hg.size)
      have HN3 := Lib.hid hne3
      have HN5 := Lib.hid hne5
      have TR := Lib.hid toRow
      have lo23 := Lib.hid (D.out.at 0 rfl).1
      have loz := Lib.hid (D.out.at 1 rfl).1
      have LS21 : wr.heap.size ≤ s17 := (D.out.at 2 rfl).1 |> fun _ => LS17
      clear hg hsz hne1 hne2 hne3 hne4 hne5 e3 toRow N D
      go_wp2_with fail
      refine Calls.mono (spoil_any o23 _ c23 s21 _ _ P3.out (by rw [ackOf_len]; omega)) ?_
      rintro en w4 ⟨rfl, hg, hsz⟩
      have Z4 := Lib.hid (Z3.out.grown hg (fun a ha => TR.out _ _ (fun b hb => HN3.out a b ha hb)))
      have B4 := Lib.hid (Below.appended B3.out P3.out (by omega) hg B3.out.size)
      have e4 := World.cell?_of_block (a := ⟨t19, 3, none⟩) (hg.block t19 L3 (TR.out _ _ HN5.out))
      have y4 := e4.trans Y3.out
      clear hg hsz e4
      go_wp2_with fail
      clear y4
      refine Calls.mono (spoil_any oz _ cz s17 _ _ Z4.out (by omega)) ?_
      rintro en w5 ⟨rfl, hg, hsz⟩
      have B5 := Lib.hid (Below.appended B4.out Z4.out (by omega) hg B4.out.size)
      clear hg hsz
      go_wp2_with fail
      go_roundw
      case rel => exact ⟨k + 1, by omega, by go_num, Lib.hid (M.out.go B5.out)⟩
      case measure => simp [intOf]; omega
end Go.Proofs.Ytoegehlefdpghaa
