-- Laid by a program of this session (wip/tools/mk.py) over the kit's print: functions, contracts, walks; not written by hand, not trusted: Lean checks it.
import Derived.Test.YtilkbmjkjlbfmaaPEntx0
namespace Go.Proofs.Ytilkbmjkjlbfmaa.PEnt
open Go.RowKit Go.Proofs.YtilkbmjkjlbfmaaW.PrintWords Go.Proofs.YtilkbmjkjlbfmaaW.PrintLast Go.Proofs.YtilkbmjkjlbfmaaW.PrintMore
attribute [local go_sem] max2_int min2_int max_two min_two max_three min_three max_four min_four   -- for this text's walks alone
set_option linter.unusedVariables false
set_option linter.unusedSimpArgs false

/-! ### towroperef26_Check: function 37 -/
mutual
def towroperef26_Check.j0 : Nat → Bool → Bool → Bool → Bool → Int → Int → Int → Int → Int → Int → Int → Int → Int → Int → List Int → Option (Int)
 | 0, _, _, _, _, _, _, _, _, _, _, _, _, _, _, _ => none
 | k + 1, x6, x7, x8, x43, x207000, x207001, x207002, x207003, x207004, x207005, x207006, x207007, x207008, x207009, x207010 => if x43 = true then (some 260) else (if x6 = true then (if x207000 = 5 then (if x7 = true then (if x207000 = 7 then (if x8 = true then (towroperef26_Check.j1 k x7 (x207000 != 12) x207000 x207001 x207002 x207003 x207004 x207005 x207006 x207007 x207008 x207009 x207010) else (towroperef26_Check.j1 k x7 false x207000 x207001 x207002 x207003 x207004 x207005 x207006 x207007 x207008 x207009 x207010)) else (towroperef26_Check.j1 k x7 true x207000 x207001 x207002 x207003 x207004 x207005 x207006 x207007 x207008 x207009 x207010)) else (if x8 = true then (towroperef26_Check.j1 k x7 (x207000 != 12) x207000 x207001 x207002 x207003 x207004 x207005 x207006 x207007 x207008 x207009 x207010) else (towroperef26_Check.j1 k x7 false x207000 x207001 x207002 x207003 x207004 x207005 x207006 x207007 x207008 x207009 x207010))) else (if x207000 = 7 then (if x7 = true then (if x8 = true then (towroperef26_Check.j1 k x7 (x207000 != 12) x207000 x207001 x207002 x207003 x207004 x207005 x207006 x207007 x207008 x207009 x207010) else (towroperef26_Check.j1 k x7 false x207000 x207001 x207002 x207003 x207004 x207005 x207006 x207007 x207008 x207009 x207010)) else (if x8 = true then (towroperef26_Check.j1 k x7 (x207000 != 12) x207000 x207001 x207002 x207003 x207004 x207005 x207006 x207007 x207008 x207009 x207010) else (towroperef26_Check.j1 k x7 false x207000 x207001 x207002 x207003 x207004 x207005 x207006 x207007 x207008 x207009 x207010))) else (towroperef26_Check.j1 k x7 true x207000 x207001 x207002 x207003 x207004 x207005 x207006 x207007 x207008 x207009 x207010))) else (if x7 = true then (if x207000 = 7 then (if x8 = true then (towroperef26_Check.j1 k x7 (x207000 != 12) x207000 x207001 x207002 x207003 x207004 x207005 x207006 x207007 x207008 x207009 x207010) else (towroperef26_Check.j1 k x7 false x207000 x207001 x207002 x207003 x207004 x207005 x207006 x207007 x207008 x207009 x207010)) else (towroperef26_Check.j1 k x7 true x207000 x207001 x207002 x207003 x207004 x207005 x207006 x207007 x207008 x207009 x207010)) else (if x8 = true then (towroperef26_Check.j1 k x7 (x207000 != 12) x207000 x207001 x207002 x207003 x207004 x207005 x207006 x207007 x207008 x207009 x207010) else (towroperef26_Check.j1 k x7 false x207000 x207001 x207002 x207003 x207004 x207005 x207006 x207007 x207008 x207009 x207010))))
def towroperef26_Check.j1 : Nat → Bool → Bool → Int → Int → Int → Int → Int → Int → Int → Int → Int → Int → List Int → Option (Int)
 | 0, _, _, _, _, _, _, _, _, _, _, _, _, _ => none
 | k + 1, x7, x70, x207000, x207001, x207002, x207003, x207004, x207005, x207006, x207007, x207008, x207009, x207010 => if x70 = true then (some 260) else (if x207000 = 7 then (if x207005 < 0 then (towroperef26_Check.j2 k true x207000 x207001 x207002 x207003 x207004 x207005 x207006 x207007 x207008 x207009 x207010) else (if x207005 > 65536 then (towroperef26_Check.j2 k true x207000 x207001 x207002 x207003 x207004 x207005 x207006 x207007 x207008 x207009 x207010) else (if x207005 = 0 then (towroperef26_Check.j2 k (!x7) x207000 x207001 x207002 x207003 x207004 x207005 x207006 x207007 x207008 x207009 x207010) else (towroperef26_Check.j2 k false x207000 x207001 x207002 x207003 x207004 x207005 x207006 x207007 x207008 x207009 x207010)))) else (towroperef26_Check.j2 k false x207000 x207001 x207002 x207003 x207004 x207005 x207006 x207007 x207008 x207009 x207010))
def towroperef26_Check.j2 : Nat → Bool → Int → Int → Int → Int → Int → Int → Int → Int → Int → Int → List Int → Option (Int)
 | 0, _, _, _, _, _, _, _, _, _, _, _, _ => none
 | k + 1, x92, x207000, x207001, x207002, x207003, x207004, x207005, x207006, x207007, x207008, x207009, x207010 => if x92 = true then (some 260) else (if x207000 = 6 then (if (x207010.length : Int) > 65536 then (towroperef26_Check.j3 k true x207000 x207001 x207002 x207003 x207004 x207005 x207006 x207007 x207008 x207009 x207010) else (towroperef26_Check.j3 k false x207000 x207001 x207002 x207003 x207004 x207005 x207006 x207007 x207008 x207009 x207010)) else (towroperef26_Check.j3 k (decide ((x207010.length : Int) > 0)) x207000 x207001 x207002 x207003 x207004 x207005 x207006 x207007 x207008 x207009 x207010))
def towroperef26_Check.j3 : Nat → Bool → Int → Int → Int → Int → Int → Int → Int → Int → Int → Int → List Int → Option (Int)
 | 0, _, _, _, _, _, _, _, _, _, _, _, _ => none
 | k + 1, x112, x207000, x207001, x207002, x207003, x207004, x207005, x207006, x207007, x207008, x207009, x207010 => if x112 = true then (some 260) else (if x207000 = 10 then (if x207008 > 1073741824 then (some 260) else (some 0)) else (if x207000 = 11 then (if x207008 > 1073741824 then (some 260) else (some 0)) else (some 0)))
end
def towroperef26_Check.f (k : Nat) (a0_0 : Int) (a0_1 : Int) (a0_2 : Int) (a0_3 : Int) (a0_4 : Int) (a0_5 : Int) (a0_6 : Int) (a0_7 : Int) (a0_8 : Int) (a0_9 : Int) (l0_10 : List Int) : Option (Int) := if a0_0 > 13 then (towroperef26_Check.j0 k ((Int.tmod (wrap64 (Int.tdiv (wrap64 (a0_1)) 4)) 2) == 1) ((Int.tmod (wrap64 (Int.tdiv (wrap64 (a0_1)) 8)) 2) == 1) ((Int.tmod (wrap64 (Int.tdiv (wrap64 (a0_1)) 16)) 2) == 1) true a0_0 a0_1 a0_2 a0_3 a0_4 a0_5 a0_6 a0_7 a0_8 a0_9 l0_10) else (if (wrap64 (a0_1)) > 31 then (towroperef26_Check.j0 k ((Int.tmod (wrap64 (Int.tdiv (wrap64 (a0_1)) 4)) 2) == 1) ((Int.tmod (wrap64 (Int.tdiv (wrap64 (a0_1)) 8)) 2) == 1) ((Int.tmod (wrap64 (Int.tdiv (wrap64 (a0_1)) 16)) 2) == 1) true a0_0 a0_1 a0_2 a0_3 a0_4 a0_5 a0_6 a0_7 a0_8 a0_9 l0_10) else (if (Int.tmod (wrap64 (a0_1)) 2) = 1 then (towroperef26_Check.j0 k ((Int.tmod (wrap64 (Int.tdiv (wrap64 (a0_1)) 4)) 2) == 1) ((Int.tmod (wrap64 (Int.tdiv (wrap64 (a0_1)) 8)) 2) == 1) ((Int.tmod (wrap64 (Int.tdiv (wrap64 (a0_1)) 16)) 2) == 1) ((Int.tmod (wrap64 (Int.tdiv (wrap64 (a0_1)) 2)) 2) == 1) a0_0 a0_1 a0_2 a0_3 a0_4 a0_5 a0_6 a0_7 a0_8 a0_9 l0_10) else (towroperef26_Check.j0 k ((Int.tmod (wrap64 (Int.tdiv (wrap64 (a0_1)) 4)) 2) == 1) ((Int.tmod (wrap64 (Int.tdiv (wrap64 (a0_1)) 8)) 2) == 1) ((Int.tmod (wrap64 (Int.tdiv (wrap64 (a0_1)) 16)) 2) == 1) false a0_0 a0_1 a0_2 a0_3 a0_4 a0_5 a0_6 a0_7 a0_8 a0_9 l0_10)))
theorem towroperef26_Check.mono_l : ∀ k, (∀ y0 y1 y2 y3 y4 y5 y6 y7 y8 y9 y10 y11 y12 y13 y14, LeO (towroperef26_Check.j0 k y0 y1 y2 y3 y4 y5 y6 y7 y8 y9 y10 y11 y12 y13 y14) (towroperef26_Check.j0 (k + 1) y0 y1 y2 y3 y4 y5 y6 y7 y8 y9 y10 y11 y12 y13 y14)) ∧ (∀ y0 y1 y2 y3 y4 y5 y6 y7 y8 y9 y10 y11 y12, LeO (towroperef26_Check.j1 k y0 y1 y2 y3 y4 y5 y6 y7 y8 y9 y10 y11 y12) (towroperef26_Check.j1 (k + 1) y0 y1 y2 y3 y4 y5 y6 y7 y8 y9 y10 y11 y12)) ∧ (∀ y0 y1 y2 y3 y4 y5 y6 y7 y8 y9 y10 y11, LeO (towroperef26_Check.j2 k y0 y1 y2 y3 y4 y5 y6 y7 y8 y9 y10 y11) (towroperef26_Check.j2 (k + 1) y0 y1 y2 y3 y4 y5 y6 y7 y8 y9 y10 y11)) ∧ (∀ y0 y1 y2 y3 y4 y5 y6 y7 y8 y9 y10 y11, LeO (towroperef26_Check.j3 k y0 y1 y2 y3 y4 y5 y6 y7 y8 y9 y10 y11) (towroperef26_Check.j3 (k + 1) y0 y1 y2 y3 y4 y5 y6 y7 y8 y9 y10 y11))
 | 0 => ⟨fun _ _ _ _ _ _ _ _ _ _ _ _ _ _ _ r h => by simp [towroperef26_Check.j0] at h, fun _ _ _ _ _ _ _ _ _ _ _ _ _ r h => by simp [towroperef26_Check.j1] at h, fun _ _ _ _ _ _ _ _ _ _ _ _ r h => by simp [towroperef26_Check.j2] at h, fun _ _ _ _ _ _ _ _ _ _ _ _ r h => by simp [towroperef26_Check.j3] at h⟩
 | k + 1 => by
  obtain ⟨ih0, ih1, ih2, ih3⟩ := towroperef26_Check.mono_l k
  refine ⟨?_, ?_, ?_, ?_⟩
  ·
   intro y0 y1 y2 y3 y4 y5 y6 y7 y8 y9 y10 y11 y12 y13 y14
   unfold towroperef26_Check.j0
   repeat' first
   | (with_reducible exact ih0 _ _ _ _ _ _ _ _ _ _ _ _ _ _ _)
   | (with_reducible exact ih1 _ _ _ _ _ _ _ _ _ _ _ _ _)
   | (with_reducible exact ih2 _ _ _ _ _ _ _ _ _ _ _ _)
   | (with_reducible exact ih3 _ _ _ _ _ _ _ _ _ _ _ _)
   | (with_reducible exact LeO.refl _)
   | (with_reducible exact LeO.none _)
   | (with_reducible refine LeO.ite ?_ ?_)
   | (with_reducible refine LeO.bind ?_ (fun _ => ?_))
   | exact ih0 _ _ _ _ _ _ _ _ _ _ _ _ _ _ _
   | exact ih1 _ _ _ _ _ _ _ _ _ _ _ _ _
   | exact ih2 _ _ _ _ _ _ _ _ _ _ _ _
   | exact ih3 _ _ _ _ _ _ _ _ _ _ _ _
   | exact LeO.none _
   | refine LeO.ite ?_ ?_
   | refine LeO.bind ?_ (fun _ => ?_)
  ·
   intro y0 y1 y2 y3 y4 y5 y6 y7 y8 y9 y10 y11 y12
   unfold towroperef26_Check.j1
   repeat' first
   | (with_reducible exact ih0 _ _ _ _ _ _ _ _ _ _ _ _ _ _ _)
   | (with_reducible exact ih1 _ _ _ _ _ _ _ _ _ _ _ _ _)
   | (with_reducible exact ih2 _ _ _ _ _ _ _ _ _ _ _ _)
   | (with_reducible exact ih3 _ _ _ _ _ _ _ _ _ _ _ _)
   | (with_reducible exact LeO.refl _)
   | (with_reducible exact LeO.none _)
   | (with_reducible refine LeO.ite ?_ ?_)
   | (with_reducible refine LeO.bind ?_ (fun _ => ?_))
   | exact ih0 _ _ _ _ _ _ _ _ _ _ _ _ _ _ _
   | exact ih1 _ _ _ _ _ _ _ _ _ _ _ _ _
   | exact ih2 _ _ _ _ _ _ _ _ _ _ _ _
   | exact ih3 _ _ _ _ _ _ _ _ _ _ _ _
   | exact LeO.none _
   | refine LeO.ite ?_ ?_
   | refine LeO.bind ?_ (fun _ => ?_)
  ·
   intro y0 y1 y2 y3 y4 y5 y6 y7 y8 y9 y10 y11
   unfold towroperef26_Check.j2
   repeat' first
   | (with_reducible exact ih0 _ _ _ _ _ _ _ _ _ _ _ _ _ _ _)
   | (with_reducible exact ih1 _ _ _ _ _ _ _ _ _ _ _ _ _)
   | (with_reducible exact ih2 _ _ _ _ _ _ _ _ _ _ _ _)
   | (with_reducible exact ih3 _ _ _ _ _ _ _ _ _ _ _ _)
   | (with_reducible exact LeO.refl _)
   | (with_reducible exact LeO.none _)
   | (with_reducible refine LeO.ite ?_ ?_)
   | (with_reducible refine LeO.bind ?_ (fun _ => ?_))
   | exact ih0 _ _ _ _ _ _ _ _ _ _ _ _ _ _ _
   | exact ih1 _ _ _ _ _ _ _ _ _ _ _ _ _
   | exact ih2 _ _ _ _ _ _ _ _ _ _ _ _
   | exact ih3 _ _ _ _ _ _ _ _ _ _ _ _
   | exact LeO.none _
   | refine LeO.ite ?_ ?_
   | refine LeO.bind ?_ (fun _ => ?_)
  ·
   intro y0 y1 y2 y3 y4 y5 y6 y7 y8 y9 y10 y11
   unfold towroperef26_Check.j3
   repeat' first
   | (with_reducible exact ih0 _ _ _ _ _ _ _ _ _ _ _ _ _ _ _)
   | (with_reducible exact ih1 _ _ _ _ _ _ _ _ _ _ _ _ _)
   | (with_reducible exact ih2 _ _ _ _ _ _ _ _ _ _ _ _)
   | (with_reducible exact ih3 _ _ _ _ _ _ _ _ _ _ _ _)
   | (with_reducible exact LeO.refl _)
   | (with_reducible exact LeO.none _)
   | (with_reducible refine LeO.ite ?_ ?_)
   | (with_reducible refine LeO.bind ?_ (fun _ => ?_))
   | exact ih0 _ _ _ _ _ _ _ _ _ _ _ _ _ _ _
   | exact ih1 _ _ _ _ _ _ _ _ _ _ _ _ _
   | exact ih2 _ _ _ _ _ _ _ _ _ _ _ _
   | exact ih3 _ _ _ _ _ _ _ _ _ _ _ _
   | exact LeO.none _
   | refine LeO.ite ?_ ?_
   | refine LeO.bind ?_ (fun _ => ?_)
theorem towroperef26_Check.mono : ∀ a0 a1 a2 a3 a4 a5 a6 a7 a8 a9 a10 k, LeO (towroperef26_Check.f k a0 a1 a2 a3 a4 a5 a6 a7 a8 a9 a10) (towroperef26_Check.f (k + 1) a0 a1 a2 a3 a4 a5 a6 a7 a8 a9 a10) := by
 intro a0 a1 a2 a3 a4 a5 a6 a7 a8 a9 a10 k
 obtain ⟨ih0, ih1, ih2, ih3⟩ := towroperef26_Check.mono_l k
 unfold towroperef26_Check.f
 repeat' first
   | (with_reducible exact ih0 _ _ _ _ _ _ _ _ _ _ _ _ _ _ _)
   | (with_reducible exact ih1 _ _ _ _ _ _ _ _ _ _ _ _ _)
   | (with_reducible exact ih2 _ _ _ _ _ _ _ _ _ _ _ _)
   | (with_reducible exact ih3 _ _ _ _ _ _ _ _ _ _ _ _)
   | (with_reducible exact LeO.refl _)
   | (with_reducible exact LeO.none _)
   | (with_reducible refine LeO.ite ?_ ?_)
   | (with_reducible refine LeO.bind ?_ (fun _ => ?_))
   | exact ih0 _ _ _ _ _ _ _ _ _ _ _ _ _ _ _
   | exact ih1 _ _ _ _ _ _ _ _ _ _ _ _ _
   | exact ih2 _ _ _ _ _ _ _ _ _ _ _ _
   | exact ih3 _ _ _ _ _ _ _ _ _ _ _ _
   | exact LeO.none _
   | refine LeO.ite ?_ ?_
   | refine LeO.bind ?_ (fun _ => ?_)
set_option maxHeartbeats 8000000 in
set_option maxRecDepth 100000 in
theorem towroperef26_Check.calls (k : Nat) (a0_0 : Int) (a0_1 : Int) (a0_2 : Int) (a0_3 : Int) (a0_4 : Int) (a0_5 : Int) (a0_6 : Int) (a0_7 : Int) (a0_8 : Int) (a0_9 : Int) (A0_10 : Option Addr) (c0_10 : Nat) (l0_10 : List Int) (r : Int) (w : World) (hr0_10 : Kd.C (Kd.int .u8) w A0_10 l0_10.length l0_10) (hc0_10 : l0_10.length ≤ c0_10) (h : towroperef26_Check.f k a0_0 a0_1 a0_2 a0_3 a0_4 a0_5 a0_6 a0_7 a0_8 a0_9 l0_10 = some r) :
  Calls Try.prog 37 #[.agg #[.int .u8 a0_0, .int .u8 a0_1, .int .i64 a0_2, .int .u32 a0_3, .int .u16 a0_4, .int .i64 a0_5, .int .i64 a0_6, .int .i64 a0_7, .int .u64 a0_8, .int .u64 a0_9, .slice A0_10 l0_10.length c0_10]] w fun e w' => e = .returned (.int .i64 r) ∧ Below w.heap.size w w' := by
 have hu50 := Try.underlying50
 have HR0_10 := Aside0.mk hr0_10
 have HC0_10 := Aside0.mk hc0_10
 clear hr0_10 hc0_10
 have HB := Aside0.mk (Below.refl w.heap.size w)
 have H : (if a0_0 > 13 then (towroperef26_Check.j0 k ((Int.tmod (wrap64 (Int.tdiv (wrap64 (a0_1)) 4)) 2) == 1) ((Int.tmod (wrap64 (Int.tdiv (wrap64 (a0_1)) 8)) 2) == 1) ((Int.tmod (wrap64 (Int.tdiv (wrap64 (a0_1)) 16)) 2) == 1) true a0_0 a0_1 a0_2 a0_3 a0_4 a0_5 a0_6 a0_7 a0_8 a0_9 l0_10) else (if (wrap64 (a0_1)) > 31 then (towroperef26_Check.j0 k ((Int.tmod (wrap64 (Int.tdiv (wrap64 (a0_1)) 4)) 2) == 1) ((Int.tmod (wrap64 (Int.tdiv (wrap64 (a0_1)) 8)) 2) == 1) ((Int.tmod (wrap64 (Int.tdiv (wrap64 (a0_1)) 16)) 2) == 1) true a0_0 a0_1 a0_2 a0_3 a0_4 a0_5 a0_6 a0_7 a0_8 a0_9 l0_10) else (if (Int.tmod (wrap64 (a0_1)) 2) = 1 then (towroperef26_Check.j0 k ((Int.tmod (wrap64 (Int.tdiv (wrap64 (a0_1)) 4)) 2) == 1) ((Int.tmod (wrap64 (Int.tdiv (wrap64 (a0_1)) 8)) 2) == 1) ((Int.tmod (wrap64 (Int.tdiv (wrap64 (a0_1)) 16)) 2) == 1) ((Int.tmod (wrap64 (Int.tdiv (wrap64 (a0_1)) 2)) 2) == 1) a0_0 a0_1 a0_2 a0_3 a0_4 a0_5 a0_6 a0_7 a0_8 a0_9 l0_10) else (towroperef26_Check.j0 k ((Int.tmod (wrap64 (Int.tdiv (wrap64 (a0_1)) 4)) 2) == 1) ((Int.tmod (wrap64 (Int.tdiv (wrap64 (a0_1)) 8)) 2) == 1) ((Int.tmod (wrap64 (Int.tdiv (wrap64 (a0_1)) 16)) 2) == 1) false a0_0 a0_1 a0_2 a0_3 a0_4 a0_5 a0_6 a0_7 a0_8 a0_9 l0_10)))) = some r := h
 clear h
 have HC2 := Aside0.mk H
 clear H
 go_enter Try.func37, Try.ntmps37
 go_upto_region 3 with (first | ((with_reducible refine gate_dst (N := 1) rfl ?_); (try (refine gate_guard (by rfl) ?_; dsimp only)); refine box_event ?hg (N := 1) ?hd (cs := #[.int .u8 a0_0, .int .u8 a0_1, .int .i64 a0_2, .int .u32 a0_3, .int .u16 a0_4, .int .i64 a0_5, .int .i64 a0_6, .int .i64 a0_7, .int .u64 a0_8, .int .u64 a0_9, .slice A0_10 l0_10.length c0_10]) (t := 50) ?hr ?_; (case hd => rfl); (case hg => rfl); (case hr => first | (go_simp; done) | (go_simp; rfl)); intro gb206 hg w3 hbox hb; have n0_ := Aside0.mk (below_step (by repeat (first | (with_reducible first | exact HB.out | apply below_alloc | apply pw_below_drewN | apply below_drew1) | exact HB.out)) hb); have n1_ := Aside0.mk (hbox); have n2_ := Aside0.mk ((by rw [hg]; exact (below_size (by repeat (first | (with_reducible first | exact HB.out | apply below_alloc | apply pw_below_drewN | apply below_drew1) | exact HB.out))) : w.heap.size ≤ gb206)); have n3_ := Aside0.mk ((by rw [hg]; exact (below_size (by repeat (first | (with_reducible first | exact HB.out | apply below_alloc | apply pw_below_drewN | apply below_drew1) | exact HB.out))) : w.heap.size ≤ gb206)); clear HB; have HB := n0_; have BK206 := n1_; have GW206 := n2_; have GE206 := n3_; clear n0_ n1_ n2_ n3_; clear hb hbox hg; have hcz4_0 : w3.cell? ⟨gb206, 0, none⟩ = some (.int .u8 a0_0) := (blk_cell BK206.out 0).trans rfl; have hcz4_1 : w3.cell? ⟨gb206, 1, none⟩ = some (.int .u8 a0_1) := (blk_cell BK206.out 1).trans rfl; have hcz4_2 : w3.cell? ⟨gb206, 2, none⟩ = some (.int .i64 a0_2) := (blk_cell BK206.out 2).trans rfl; have hcz4_3 : w3.cell? ⟨gb206, 3, none⟩ = some (.int .u32 a0_3) := (blk_cell BK206.out 3).trans rfl; have hcz4_4 : w3.cell? ⟨gb206, 4, none⟩ = some (.int .u16 a0_4) := (blk_cell BK206.out 4).trans rfl; have hcz4_5 : w3.cell? ⟨gb206, 5, none⟩ = some (.int .i64 a0_5) := (blk_cell BK206.out 5).trans rfl; have hcz4_6 : w3.cell? ⟨gb206, 6, none⟩ = some (.int .i64 a0_6) := (blk_cell BK206.out 6).trans rfl; have hcz4_7 : w3.cell? ⟨gb206, 7, none⟩ = some (.int .i64 a0_7) := (blk_cell BK206.out 7).trans rfl; have hcz4_8 : w3.cell? ⟨gb206, 8, none⟩ = some (.int .u64 a0_8) := (blk_cell BK206.out 8).trans rfl; have hcz4_9 : w3.cell? ⟨gb206, 9, none⟩ = some (.int .u64 a0_9) := (blk_cell BK206.out 9).trans rfl; have hcz4_10 : w3.cell? ⟨gb206, 10, none⟩ = some (.slice A0_10 l0_10.length c0_10) := (blk_cell BK206.out 10).trans rfl; have hfz4_0 := blk_frozen BK206.out 0; have hfz4_1 := blk_frozen BK206.out 1; have hfz4_2 := blk_frozen BK206.out 2; have hfz4_3 := blk_frozen BK206.out 3; have hfz4_4 := blk_frozen BK206.out 4; have hfz4_5 := blk_frozen BK206.out 5; have hfz4_6 := blk_frozen BK206.out 6; have hfz4_7 := blk_frozen BK206.out 7; have hfz4_8 := blk_frozen BK206.out 8; have hfz4_9 := blk_frozen BK206.out 9; have hfz4_10 := blk_frozen BK206.out 10))
 (try simp only [Act.put, List.setIfInBounds_toArray, List.set_cons_zero, List.set_cons_succ])
 go_cut [43, 4, 5, 6, 7, 8] (fun v43 v4 v5 v6 v7 v8 wc => ∃ (kq : Nat) (x43_1 : Bool), v43 = .bool x43_1 ∧ Aside0 (towroperef26_Check.j0 kq ((Int.tmod (wrap64 (Int.tdiv (wrap64 (a0_1)) 4)) 2) == 1) ((Int.tmod (wrap64 (Int.tdiv (wrap64 (a0_1)) 8)) 2) == 1) ((Int.tmod (wrap64 (Int.tdiv (wrap64 (a0_1)) 16)) 2) == 1) x43_1 a0_0 a0_1 a0_2 a0_3 a0_4 a0_5 a0_6 a0_7 a0_8 a0_9 l0_10 = some r) ∧ Aside0 (kq ≤ k) ∧ Aside0 (wc.heap[gb206]? = some (.cells #[.int .u8 a0_0, .int .u8 a0_1, .int .i64 a0_2, .int .u32 a0_3, .int .u16 a0_4, .int .i64 a0_5, .int .i64 a0_6, .int .i64 a0_7, .int .u64 a0_8, .int .u64 a0_9, (.slice A0_10 l0_10.length c0_10)] 50 (0, 0))) ∧ Aside0 (Below w.heap.size w wc) ∧ v6 = .bool ((Int.tmod (wrap64 (Int.tdiv (wrap64 (a0_1)) 4)) 2) == 1) ∧ v7 = .bool ((Int.tmod (wrap64 (Int.tdiv (wrap64 (a0_1)) 8)) 2) == 1) ∧ v8 = .bool ((Int.tmod (wrap64 (Int.tdiv (wrap64 (a0_1)) 16)) 2) == 1))
 case first =>
  have H := HC2.out
  clear HC2
  by_cases c5 : a0_0 > 13
  ·
   rw [if_pos c5] at H
   have c5b0 : decide (13 < a0_0) = true := decide_eq_true c5
   clear c5
   (first | rw [c5b0] | (simp only [i64_w, i32_w]; rw [c5b0]) | skip)
   have H' := Aside0.mk H
   clear H
   have hcz6_0 : w3.cell? ⟨gb206, 0, none⟩ = some (.int .u8 a0_0) := (blk_cell BK206.out 0).trans rfl
   have hcz6_1 : w3.cell? ⟨gb206, 1, none⟩ = some (.int .u8 a0_1) := (blk_cell BK206.out 1).trans rfl
   have hcz6_2 : w3.cell? ⟨gb206, 2, none⟩ = some (.int .i64 a0_2) := (blk_cell BK206.out 2).trans rfl
   have hcz6_3 : w3.cell? ⟨gb206, 3, none⟩ = some (.int .u32 a0_3) := (blk_cell BK206.out 3).trans rfl
   have hcz6_4 : w3.cell? ⟨gb206, 4, none⟩ = some (.int .u16 a0_4) := (blk_cell BK206.out 4).trans rfl
   have hcz6_5 : w3.cell? ⟨gb206, 5, none⟩ = some (.int .i64 a0_5) := (blk_cell BK206.out 5).trans rfl
   have hcz6_6 : w3.cell? ⟨gb206, 6, none⟩ = some (.int .i64 a0_6) := (blk_cell BK206.out 6).trans rfl
   have hcz6_7 : w3.cell? ⟨gb206, 7, none⟩ = some (.int .i64 a0_7) := (blk_cell BK206.out 7).trans rfl
   have hcz6_8 : w3.cell? ⟨gb206, 8, none⟩ = some (.int .u64 a0_8) := (blk_cell BK206.out 8).trans rfl
   have hcz6_9 : w3.cell? ⟨gb206, 9, none⟩ = some (.int .u64 a0_9) := (blk_cell BK206.out 9).trans rfl
   have hcz6_10 : w3.cell? ⟨gb206, 10, none⟩ = some (.slice A0_10 l0_10.length c0_10) := (blk_cell BK206.out 10).trans rfl
   have hfz6_0 := blk_frozen BK206.out 0
   have hfz6_1 := blk_frozen BK206.out 1
   have hfz6_2 := blk_frozen BK206.out 2
   have hfz6_3 := blk_frozen BK206.out 3
   have hfz6_4 := blk_frozen BK206.out 4
   have hfz6_5 := blk_frozen BK206.out 5
   have hfz6_6 := blk_frozen BK206.out 6
   have hfz6_7 := blk_frozen BK206.out 7
   have hfz6_8 := blk_frozen BK206.out 8
   have hfz6_9 := blk_frozen BK206.out 9
   have hfz6_10 := blk_frozen BK206.out 10
   go_wp2
   go_meet
   case rel => exact ⟨_, (true), (by first | rfl | (simp; done) | (simp [*]; done)), H', ⟨by first | omega | exact Nat.le_refl _⟩, ⟨by (with_reducible repeat (first | refine blk_drewN ?_ _ | refine blk_drew ?_ | refine blk_alloc ?_ _)); exact BK206.out⟩, ⟨by repeat (first | (with_reducible first | exact HB.out | apply below_alloc | apply pw_below_drewN | apply below_drew1 | refine below_set ?_ GE206.out) | exact HB.out)⟩, (by first | rfl | (simp [*]; done)), (by first | rfl | (simp [*]; done)), (by first | rfl | (simp [*]; done))⟩
  ·
   rw [if_neg c5] at H
   have c5b0 : decide (13 < a0_0) = false := decide_eq_false c5
   clear c5
   (first | rw [c5b0] | (simp only [i64_w, i32_w]; rw [c5b0]) | skip)
   by_cases c7 : (wrap64 (a0_1)) > 31
   ·
    rw [if_pos c7] at H
    have c7b0 : decide (31 < (wrap64 (a0_1))) = true := decide_eq_true c7
    clear c7
    have H' := Aside0.mk H
    clear H
    have hcz8_0 : w3.cell? ⟨gb206, 0, none⟩ = some (.int .u8 a0_0) := (blk_cell BK206.out 0).trans rfl
    have hcz8_1 : w3.cell? ⟨gb206, 1, none⟩ = some (.int .u8 a0_1) := (blk_cell BK206.out 1).trans rfl
    have hcz8_2 : w3.cell? ⟨gb206, 2, none⟩ = some (.int .i64 a0_2) := (blk_cell BK206.out 2).trans rfl
    have hcz8_3 : w3.cell? ⟨gb206, 3, none⟩ = some (.int .u32 a0_3) := (blk_cell BK206.out 3).trans rfl
    have hcz8_4 : w3.cell? ⟨gb206, 4, none⟩ = some (.int .u16 a0_4) := (blk_cell BK206.out 4).trans rfl
    have hcz8_5 : w3.cell? ⟨gb206, 5, none⟩ = some (.int .i64 a0_5) := (blk_cell BK206.out 5).trans rfl
    have hcz8_6 : w3.cell? ⟨gb206, 6, none⟩ = some (.int .i64 a0_6) := (blk_cell BK206.out 6).trans rfl
    have hcz8_7 : w3.cell? ⟨gb206, 7, none⟩ = some (.int .i64 a0_7) := (blk_cell BK206.out 7).trans rfl
    have hcz8_8 : w3.cell? ⟨gb206, 8, none⟩ = some (.int .u64 a0_8) := (blk_cell BK206.out 8).trans rfl
    have hcz8_9 : w3.cell? ⟨gb206, 9, none⟩ = some (.int .u64 a0_9) := (blk_cell BK206.out 9).trans rfl
    have hcz8_10 : w3.cell? ⟨gb206, 10, none⟩ = some (.slice A0_10 l0_10.length c0_10) := (blk_cell BK206.out 10).trans rfl
    have hfz8_0 := blk_frozen BK206.out 0
    have hfz8_1 := blk_frozen BK206.out 1
    have hfz8_2 := blk_frozen BK206.out 2
    have hfz8_3 := blk_frozen BK206.out 3
    have hfz8_4 := blk_frozen BK206.out 4
    have hfz8_5 := blk_frozen BK206.out 5
    have hfz8_6 := blk_frozen BK206.out 6
    have hfz8_7 := blk_frozen BK206.out 7
    have hfz8_8 := blk_frozen BK206.out 8
    have hfz8_9 := blk_frozen BK206.out 9
    have hfz8_10 := blk_frozen BK206.out 10
    go_wp2
    go_meet
    case rel => exact ⟨_, (true), (by first | rfl | (simp; done) | (simp [*]; done)), H', ⟨by first | omega | exact Nat.le_refl _⟩, ⟨by (with_reducible repeat (first | refine blk_drewN ?_ _ | refine blk_drew ?_ | refine blk_alloc ?_ _)); exact BK206.out⟩, ⟨by repeat (first | (with_reducible first | exact HB.out | apply below_alloc | apply pw_below_drewN | apply below_drew1 | refine below_set ?_ GE206.out) | exact HB.out)⟩, (by first | rfl | (simp [*]; done)), (by first | rfl | (simp [*]; done)), (by first | rfl | (simp [*]; done))⟩
   ·
    rw [if_neg c7] at H
    have c7b0 : decide (31 < (wrap64 (a0_1))) = false := decide_eq_false c7
    clear c7
    by_cases c9 : (Int.tmod (wrap64 (a0_1)) 2) = 1
    ·
     rw [if_pos c9] at H
     have c9b0 : ((Int.tmod (wrap64 (a0_1)) 2) == 1) = true := beq_iff_eq.mpr c9
     have c9b1 : ((Int.tmod (wrap64 (a0_1)) 2) != 1) = false := bne_eq_false_iff_eq.mpr c9
     clear c9
     have H' := Aside0.mk H
     clear H
     have hcz10_0 : w3.cell? ⟨gb206, 0, none⟩ = some (.int .u8 a0_0) := (blk_cell BK206.out 0).trans rfl
     have hcz10_1 : w3.cell? ⟨gb206, 1, none⟩ = some (.int .u8 a0_1) := (blk_cell BK206.out 1).trans rfl
     have hcz10_2 : w3.cell? ⟨gb206, 2, none⟩ = some (.int .i64 a0_2) := (blk_cell BK206.out 2).trans rfl
     have hcz10_3 : w3.cell? ⟨gb206, 3, none⟩ = some (.int .u32 a0_3) := (blk_cell BK206.out 3).trans rfl
     have hcz10_4 : w3.cell? ⟨gb206, 4, none⟩ = some (.int .u16 a0_4) := (blk_cell BK206.out 4).trans rfl
     have hcz10_5 : w3.cell? ⟨gb206, 5, none⟩ = some (.int .i64 a0_5) := (blk_cell BK206.out 5).trans rfl
     have hcz10_6 : w3.cell? ⟨gb206, 6, none⟩ = some (.int .i64 a0_6) := (blk_cell BK206.out 6).trans rfl
     have hcz10_7 : w3.cell? ⟨gb206, 7, none⟩ = some (.int .i64 a0_7) := (blk_cell BK206.out 7).trans rfl
     have hcz10_8 : w3.cell? ⟨gb206, 8, none⟩ = some (.int .u64 a0_8) := (blk_cell BK206.out 8).trans rfl
     have hcz10_9 : w3.cell? ⟨gb206, 9, none⟩ = some (.int .u64 a0_9) := (blk_cell BK206.out 9).trans rfl
     have hcz10_10 : w3.cell? ⟨gb206, 10, none⟩ = some (.slice A0_10 l0_10.length c0_10) := (blk_cell BK206.out 10).trans rfl
     have hfz10_0 := blk_frozen BK206.out 0
     have hfz10_1 := blk_frozen BK206.out 1
     have hfz10_2 := blk_frozen BK206.out 2
     have hfz10_3 := blk_frozen BK206.out 3
     have hfz10_4 := blk_frozen BK206.out 4
     have hfz10_5 := blk_frozen BK206.out 5
     have hfz10_6 := blk_frozen BK206.out 6
     have hfz10_7 := blk_frozen BK206.out 7
     have hfz10_8 := blk_frozen BK206.out 8
     have hfz10_9 := blk_frozen BK206.out 9
     have hfz10_10 := blk_frozen BK206.out 10
     go_wp2
     go_meet
     case rel => exact ⟨_, (((Int.tmod (wrap64 (Int.tdiv (wrap64 (a0_1)) 2)) 2) == 1)), (by first | rfl | (simp; done) | (simp [*]; done)), H', ⟨by first | omega | exact Nat.le_refl _⟩, ⟨by (with_reducible repeat (first | refine blk_drewN ?_ _ | refine blk_drew ?_ | refine blk_alloc ?_ _)); exact BK206.out⟩, ⟨by repeat (first | (with_reducible first | exact HB.out | apply below_alloc | apply pw_below_drewN | apply below_drew1 | refine below_set ?_ GE206.out) | exact HB.out)⟩, (by first | rfl | (simp [*]; done)), (by first | rfl | (simp [*]; done)), (by first | rfl | (simp [*]; done))⟩
    ·
     rw [if_neg c9] at H
     have c9b0 : ((Int.tmod (wrap64 (a0_1)) 2) == 1) = false := beq_eq_false_iff_ne.mpr c9
     have c9b1 : ((Int.tmod (wrap64 (a0_1)) 2) != 1) = true := bne_iff_ne.mpr c9
     have H' := Aside0.mk H
     clear H
     have hcz11_0 : w3.cell? ⟨gb206, 0, none⟩ = some (.int .u8 a0_0) := (blk_cell BK206.out 0).trans rfl
     have hcz11_1 : w3.cell? ⟨gb206, 1, none⟩ = some (.int .u8 a0_1) := (blk_cell BK206.out 1).trans rfl
     have hcz11_2 : w3.cell? ⟨gb206, 2, none⟩ = some (.int .i64 a0_2) := (blk_cell BK206.out 2).trans rfl
     have hcz11_3 : w3.cell? ⟨gb206, 3, none⟩ = some (.int .u32 a0_3) := (blk_cell BK206.out 3).trans rfl
     have hcz11_4 : w3.cell? ⟨gb206, 4, none⟩ = some (.int .u16 a0_4) := (blk_cell BK206.out 4).trans rfl
     have hcz11_5 : w3.cell? ⟨gb206, 5, none⟩ = some (.int .i64 a0_5) := (blk_cell BK206.out 5).trans rfl
     have hcz11_6 : w3.cell? ⟨gb206, 6, none⟩ = some (.int .i64 a0_6) := (blk_cell BK206.out 6).trans rfl
     have hcz11_7 : w3.cell? ⟨gb206, 7, none⟩ = some (.int .i64 a0_7) := (blk_cell BK206.out 7).trans rfl
     have hcz11_8 : w3.cell? ⟨gb206, 8, none⟩ = some (.int .u64 a0_8) := (blk_cell BK206.out 8).trans rfl
     have hcz11_9 : w3.cell? ⟨gb206, 9, none⟩ = some (.int .u64 a0_9) := (blk_cell BK206.out 9).trans rfl
     have hcz11_10 : w3.cell? ⟨gb206, 10, none⟩ = some (.slice A0_10 l0_10.length c0_10) := (blk_cell BK206.out 10).trans rfl
     have hfz11_0 := blk_frozen BK206.out 0
     have hfz11_1 := blk_frozen BK206.out 1
     have hfz11_2 := blk_frozen BK206.out 2
     have hfz11_3 := blk_frozen BK206.out 3
     have hfz11_4 := blk_frozen BK206.out 4
     have hfz11_5 := blk_frozen BK206.out 5
     have hfz11_6 := blk_frozen BK206.out 6
     have hfz11_7 := blk_frozen BK206.out 7
     have hfz11_8 := blk_frozen BK206.out 8
     have hfz11_9 := blk_frozen BK206.out 9
     have hfz11_10 := blk_frozen BK206.out 10
     go_wp2
     go_meet
     case rel => exact ⟨_, (false), (by first | rfl | (simp; done) | (simp [*]; done)), H', ⟨by first | omega | exact Nat.le_refl _⟩, ⟨by (with_reducible repeat (first | refine blk_drewN ?_ _ | refine blk_drew ?_ | refine blk_alloc ?_ _)); exact BK206.out⟩, ⟨by repeat (first | (with_reducible first | exact HB.out | apply below_alloc | apply pw_below_drewN | apply below_drew1 | refine below_set ?_ GE206.out) | exact HB.out)⟩, (by first | rfl | (simp [*]; done)), (by first | rfl | (simp [*]; done)), (by first | rfl | (simp [*]; done))⟩
 case rest =>
  clear HC2
  try clear p2
  try clear c3
  try clear c5
  try clear c5b0
  try clear p6
  try clear c7
  try clear c7b0
  try clear c9
  try clear c9b0
  try clear c9b1
  try clear hcz10_0
  try clear hcz10_1
  try clear hcz10_10
  try clear hcz10_2
  try clear hcz10_3
  try clear hcz10_4
  try clear hcz10_5
  try clear hcz10_6
  try clear hcz10_7
  try clear hcz10_8
  try clear hcz10_9
  try clear hcz11_0
  try clear hcz11_1
  try clear hcz11_10
  try clear hcz11_2
  try clear hcz11_3
  try clear hcz11_4
  try clear hcz11_5
  try clear hcz11_6
  try clear hcz11_7
  try clear hcz11_8
  try clear hcz11_9
  try clear hcz4_0
  try clear hcz4_1
  try clear hcz4_10
  try clear hcz4_2
  try clear hcz4_3
  try clear hcz4_4
  try clear hcz4_5
  try clear hcz4_6
  try clear hcz4_7
  try clear hcz4_8
  try clear hcz4_9
  try clear hcz6_0
  try clear hcz6_1
  try clear hcz6_10
  try clear hcz6_2
  try clear hcz6_3
  try clear hcz6_4
  try clear hcz6_5
  try clear hcz6_6
  try clear hcz6_7
  try clear hcz6_8
  try clear hcz6_9
  try clear hcz8_0
  try clear hcz8_1
  try clear hcz8_10
  try clear hcz8_2
  try clear hcz8_3
  try clear hcz8_4
  try clear hcz8_5
  try clear hcz8_6
  try clear hcz8_7
  try clear hcz8_8
  try clear hcz8_9
  try clear hfz10_0
  try clear hfz10_1
  try clear hfz10_10
  try clear hfz10_2
  try clear hfz10_3
  try clear hfz10_4
  try clear hfz10_5
  try clear hfz10_6
  try clear hfz10_7
  try clear hfz10_8
  try clear hfz10_9
  try clear hfz11_0
  try clear hfz11_1
  try clear hfz11_10
  try clear hfz11_2
  try clear hfz11_3
  try clear hfz11_4
  try clear hfz11_5
  try clear hfz11_6
  try clear hfz11_7
  try clear hfz11_8
  try clear hfz11_9
  try clear hfz4_0
  try clear hfz4_1
  try clear hfz4_10
  try clear hfz4_2
  try clear hfz4_3
  try clear hfz4_4
  try clear hfz4_5
  try clear hfz4_6
  try clear hfz4_7
  try clear hfz4_8
  try clear hfz4_9
  try clear hfz6_0
  try clear hfz6_1
  try clear hfz6_10
  try clear hfz6_2
  try clear hfz6_3
  try clear hfz6_4
  try clear hfz6_5
  try clear hfz6_6
  try clear hfz6_7
  try clear hfz6_8
  try clear hfz6_9
  try clear hfz8_0
  try clear hfz8_1
  try clear hfz8_10
  try clear hfz8_2
  try clear hfz8_3
  try clear hfz8_4
  try clear hfz8_5
  try clear hfz8_6
  try clear hfz8_7
  try clear hfz8_8
  try clear hfz8_9
  obtain ⟨kq, x43_1, rfl, HA, HJ1, BK206, HB, rfl, rfl, rfl⟩ := hcut
  cases kq with
  | zero => exact absurd HA.out (by simp [towroperef26_Check.j0])
  | succ kj1 =>
   have H := HA.out
   clear HA
   simp only [towroperef26_Check.j0] at H
   by_cases c12 : x43_1 = true
   ·
    subst c12
    have H1 : (some 260) = some r := by rw [if_pos rfl] at H; exact H
    clear H
    have H := H1
    clear H1
    obtain rfl := Option.some.inj H
    go_wp2
    go_ret
    exact ⟨by first | rfl | (simp [errW_none, errW_some] <;> rfl) | (simp [*, errW_none, errW_some] <;> rfl), by repeat (first | (with_reducible first | exact HB.out | apply below_alloc | apply pw_below_drewN | apply below_drew1 | refine below_set ?_ GE206.out) | exact HB.out)⟩
   ·
    replace c12 := Bool.eq_false_iff.mpr c12
    subst c12
    have H1 : (if ((Int.tmod (wrap64 (Int.tdiv (wrap64 (a0_1)) 4)) 2) == 1) = true then (if a0_0 = 5 then (if ((Int.tmod (wrap64 (Int.tdiv (wrap64 (a0_1)) 8)) 2) == 1) = true then (if a0_0 = 7 then (if ((Int.tmod (wrap64 (Int.tdiv (wrap64 (a0_1)) 16)) 2) == 1) = true then (towroperef26_Check.j1 kj1 ((Int.tmod (wrap64 (Int.tdiv (wrap64 (a0_1)) 8)) 2) == 1) (a0_0 != 12) a0_0 a0_1 a0_2 a0_3 a0_4 a0_5 a0_6 a0_7 a0_8 a0_9 l0_10) else (towroperef26_Check.j1 kj1 ((Int.tmod (wrap64 (Int.tdiv (wrap64 (a0_1)) 8)) 2) == 1) false a0_0 a0_1 a0_2 a0_3 a0_4 a0_5 a0_6 a0_7 a0_8 a0_9 l0_10)) else (towroperef26_Check.j1 kj1 ((Int.tmod (wrap64 (Int.tdiv (wrap64 (a0_1)) 8)) 2) == 1) true a0_0 a0_1 a0_2 a0_3 a0_4 a0_5 a0_6 a0_7 a0_8 a0_9 l0_10)) else (if ((Int.tmod (wrap64 (Int.tdiv (wrap64 (a0_1)) 16)) 2) == 1) = true then (towroperef26_Check.j1 kj1 ((Int.tmod (wrap64 (Int.tdiv (wrap64 (a0_1)) 8)) 2) == 1) (a0_0 != 12) a0_0 a0_1 a0_2 a0_3 a0_4 a0_5 a0_6 a0_7 a0_8 a0_9 l0_10) else (towroperef26_Check.j1 kj1 ((Int.tmod (wrap64 (Int.tdiv (wrap64 (a0_1)) 8)) 2) == 1) false a0_0 a0_1 a0_2 a0_3 a0_4 a0_5 a0_6 a0_7 a0_8 a0_9 l0_10))) else (if a0_0 = 7 then (if ((Int.tmod (wrap64 (Int.tdiv (wrap64 (a0_1)) 8)) 2) == 1) = true then (if ((Int.tmod (wrap64 (Int.tdiv (wrap64 (a0_1)) 16)) 2) == 1) = true then (towroperef26_Check.j1 kj1 ((Int.tmod (wrap64 (Int.tdiv (wrap64 (a0_1)) 8)) 2) == 1) (a0_0 != 12) a0_0 a0_1 a0_2 a0_3 a0_4 a0_5 a0_6 a0_7 a0_8 a0_9 l0_10) else (towroperef26_Check.j1 kj1 ((Int.tmod (wrap64 (Int.tdiv (wrap64 (a0_1)) 8)) 2) == 1) false a0_0 a0_1 a0_2 a0_3 a0_4 a0_5 a0_6 a0_7 a0_8 a0_9 l0_10)) else (if ((Int.tmod (wrap64 (Int.tdiv (wrap64 (a0_1)) 16)) 2) == 1) = true then (towroperef26_Check.j1 kj1 ((Int.tmod (wrap64 (Int.tdiv (wrap64 (a0_1)) 8)) 2) == 1) (a0_0 != 12) a0_0 a0_1 a0_2 a0_3 a0_4 a0_5 a0_6 a0_7 a0_8 a0_9 l0_10) else (towroperef26_Check.j1 kj1 ((Int.tmod (wrap64 (Int.tdiv (wrap64 (a0_1)) 8)) 2) == 1) false a0_0 a0_1 a0_2 a0_3 a0_4 a0_5 a0_6 a0_7 a0_8 a0_9 l0_10))) else (towroperef26_Check.j1 kj1 ((Int.tmod (wrap64 (Int.tdiv (wrap64 (a0_1)) 8)) 2) == 1) true a0_0 a0_1 a0_2 a0_3 a0_4 a0_5 a0_6 a0_7 a0_8 a0_9 l0_10))) else (if ((Int.tmod (wrap64 (Int.tdiv (wrap64 (a0_1)) 8)) 2) == 1) = true then (if a0_0 = 7 then (if ((Int.tmod (wrap64 (Int.tdiv (wrap64 (a0_1)) 16)) 2) == 1) = true then (towroperef26_Check.j1 kj1 ((Int.tmod (wrap64 (Int.tdiv (wrap64 (a0_1)) 8)) 2) == 1) (a0_0 != 12) a0_0 a0_1 a0_2 a0_3 a0_4 a0_5 a0_6 a0_7 a0_8 a0_9 l0_10) else (towroperef26_Check.j1 kj1 ((Int.tmod (wrap64 (Int.tdiv (wrap64 (a0_1)) 8)) 2) == 1) false a0_0 a0_1 a0_2 a0_3 a0_4 a0_5 a0_6 a0_7 a0_8 a0_9 l0_10)) else (towroperef26_Check.j1 kj1 ((Int.tmod (wrap64 (Int.tdiv (wrap64 (a0_1)) 8)) 2) == 1) true a0_0 a0_1 a0_2 a0_3 a0_4 a0_5 a0_6 a0_7 a0_8 a0_9 l0_10)) else (if ((Int.tmod (wrap64 (Int.tdiv (wrap64 (a0_1)) 16)) 2) == 1) = true then (towroperef26_Check.j1 kj1 ((Int.tmod (wrap64 (Int.tdiv (wrap64 (a0_1)) 8)) 2) == 1) (a0_0 != 12) a0_0 a0_1 a0_2 a0_3 a0_4 a0_5 a0_6 a0_7 a0_8 a0_9 l0_10) else (towroperef26_Check.j1 kj1 ((Int.tmod (wrap64 (Int.tdiv (wrap64 (a0_1)) 8)) 2) == 1) false a0_0 a0_1 a0_2 a0_3 a0_4 a0_5 a0_6 a0_7 a0_8 a0_9 l0_10)))) = some r := by rw [if_neg (show ¬ (false = true) by decide)] at H; exact H
    clear H
    have H := H1
    clear H1
    have HC13 := Aside0.mk H
    clear H
    go_upto_region 5 with (fail)
    go_cut [70, 4, 5, 6, 7, 8] (fun v70 v4 v5 v6 v7 v8 wc => ∃ (kq : Nat) (x70_12 : Bool), v70 = .bool x70_12 ∧ Aside0 (towroperef26_Check.j1 kq ((Int.tmod (wrap64 (Int.tdiv (wrap64 (a0_1)) 8)) 2) == 1) x70_12 a0_0 a0_1 a0_2 a0_3 a0_4 a0_5 a0_6 a0_7 a0_8 a0_9 l0_10 = some r) ∧ Aside0 (kq ≤ kj1) ∧ Aside0 (wc.heap[gb206]? = some (.cells #[.int .u8 a0_0, .int .u8 a0_1, .int .i64 a0_2, .int .u32 a0_3, .int .u16 a0_4, .int .i64 a0_5, .int .i64 a0_6, .int .i64 a0_7, .int .u64 a0_8, .int .u64 a0_9, (.slice A0_10 l0_10.length c0_10)] 50 (0, 0))) ∧ Aside0 (Below w.heap.size w wc) ∧ v7 = .bool ((Int.tmod (wrap64 (Int.tdiv (wrap64 (a0_1)) 8)) 2) == 1))
    case first =>
     have H := HC13.out
     clear HC13
     by_cases c14 : ((Int.tmod (wrap64 (Int.tdiv (wrap64 (a0_1)) 4)) 2) == 1) = true
     ·
      rw [if_pos c14] at H
      have c14b0 : ((Int.tmod (wrap64 (Int.tdiv (wrap64 (a0_1)) 4)) 2) == 1) = true := c14
      (try (have c14b1 : decide ((Int.tmod (wrap64 (Int.tdiv (wrap64 (a0_1)) 4)) 2) = 1) = true := by simpa using c14))
      (try (have c14b2 : ((Int.tmod (wrap64 (Int.tdiv (wrap64 (a0_1)) 4)) 2) == 1) = true := by simpa using c14))
      clear c14
      (first | rw [c14b0] | (simp only [i64_w, i32_w]; rw [c14b0]) | skip)
      by_cases c15 : a0_0 = 5
      ·
       rw [if_pos c15] at H
       have c15b0 : (a0_0 == 5) = true := beq_iff_eq.mpr c15
       have c15b1 : (a0_0 != 5) = false := bne_eq_false_iff_eq.mpr c15
       clear c15
       by_cases c16 : ((Int.tmod (wrap64 (Int.tdiv (wrap64 (a0_1)) 8)) 2) == 1) = true
       ·
        rw [if_pos c16] at H
        have c16b0 : ((Int.tmod (wrap64 (Int.tdiv (wrap64 (a0_1)) 8)) 2) == 1) = true := c16
        (try (have c16b1 : decide ((Int.tmod (wrap64 (Int.tdiv (wrap64 (a0_1)) 8)) 2) = 1) = true := by simpa using c16))
        (try (have c16b2 : ((Int.tmod (wrap64 (Int.tdiv (wrap64 (a0_1)) 8)) 2) == 1) = true := by simpa using c16))
        clear c16
        by_cases c17 : a0_0 = 7
        ·
         rw [if_pos c17] at H
         have c17b0 : (a0_0 == 7) = true := beq_iff_eq.mpr c17
         have c17b1 : (a0_0 != 7) = false := bne_eq_false_iff_eq.mpr c17
         clear c17
         by_cases c18 : ((Int.tmod (wrap64 (Int.tdiv (wrap64 (a0_1)) 16)) 2) == 1) = true
         ·
          rw [if_pos c18] at H
          have c18b0 : ((Int.tmod (wrap64 (Int.tdiv (wrap64 (a0_1)) 16)) 2) == 1) = true := c18
          (try (have c18b1 : decide ((Int.tmod (wrap64 (Int.tdiv (wrap64 (a0_1)) 16)) 2) = 1) = true := by simpa using c18))
          (try (have c18b2 : ((Int.tmod (wrap64 (Int.tdiv (wrap64 (a0_1)) 16)) 2) == 1) = true := by simpa using c18))
          clear c18
          have H' := Aside0.mk H
          clear H
          have hcz19_0 : wc.cell? ⟨gb206, 0, none⟩ = some (.int .u8 a0_0) := (blk_cell BK206.out 0).trans rfl
          have hcz19_1 : wc.cell? ⟨gb206, 1, none⟩ = some (.int .u8 a0_1) := (blk_cell BK206.out 1).trans rfl
          have hcz19_2 : wc.cell? ⟨gb206, 2, none⟩ = some (.int .i64 a0_2) := (blk_cell BK206.out 2).trans rfl
          have hcz19_3 : wc.cell? ⟨gb206, 3, none⟩ = some (.int .u32 a0_3) := (blk_cell BK206.out 3).trans rfl
          have hcz19_4 : wc.cell? ⟨gb206, 4, none⟩ = some (.int .u16 a0_4) := (blk_cell BK206.out 4).trans rfl
          have hcz19_5 : wc.cell? ⟨gb206, 5, none⟩ = some (.int .i64 a0_5) := (blk_cell BK206.out 5).trans rfl
          have hcz19_6 : wc.cell? ⟨gb206, 6, none⟩ = some (.int .i64 a0_6) := (blk_cell BK206.out 6).trans rfl
          have hcz19_7 : wc.cell? ⟨gb206, 7, none⟩ = some (.int .i64 a0_7) := (blk_cell BK206.out 7).trans rfl
          have hcz19_8 : wc.cell? ⟨gb206, 8, none⟩ = some (.int .u64 a0_8) := (blk_cell BK206.out 8).trans rfl
          have hcz19_9 : wc.cell? ⟨gb206, 9, none⟩ = some (.int .u64 a0_9) := (blk_cell BK206.out 9).trans rfl
          have hcz19_10 : wc.cell? ⟨gb206, 10, none⟩ = some (.slice A0_10 l0_10.length c0_10) := (blk_cell BK206.out 10).trans rfl
          have hfz19_0 := blk_frozen BK206.out 0
          have hfz19_1 := blk_frozen BK206.out 1
          have hfz19_2 := blk_frozen BK206.out 2
          have hfz19_3 := blk_frozen BK206.out 3
          have hfz19_4 := blk_frozen BK206.out 4
          have hfz19_5 := blk_frozen BK206.out 5
          have hfz19_6 := blk_frozen BK206.out 6
          have hfz19_7 := blk_frozen BK206.out 7
          have hfz19_8 := blk_frozen BK206.out 8
          have hfz19_9 := blk_frozen BK206.out 9
          have hfz19_10 := blk_frozen BK206.out 10
          go_wp2
          go_meet
          case rel => exact ⟨_, ((a0_0 != 12)), (by first | rfl | (simp; done) | (simp [*]; done)), H', ⟨by have := HJ1.out; first | omega | exact Nat.le_refl _⟩, ⟨by (with_reducible repeat (first | refine blk_drewN ?_ _ | refine blk_drew ?_ | refine blk_alloc ?_ _)); exact BK206.out⟩, ⟨by repeat (first | (with_reducible first | exact HB.out | apply below_alloc | apply pw_below_drewN | apply below_drew1 | refine below_set ?_ GE206.out) | exact HB.out)⟩, (by first | rfl | (simp [*]; done))⟩
         ·
          rw [if_neg c18] at H
          have c18b0 : ((Int.tmod (wrap64 (Int.tdiv (wrap64 (a0_1)) 16)) 2) == 1) = false := by simpa using c18
          (try (have c18b1 : decide ((Int.tmod (wrap64 (Int.tdiv (wrap64 (a0_1)) 16)) 2) = 1) = false := by simpa using c18))
          (try (have c18b2 : ((Int.tmod (wrap64 (Int.tdiv (wrap64 (a0_1)) 16)) 2) == 1) = false := by simpa using c18))
          (try (have c18b3 : ¬ ((Int.tmod (wrap64 (Int.tdiv (wrap64 (a0_1)) 16)) 2) = 1) := by simpa using c18))
          clear c18
          have H' := Aside0.mk H
          clear H
          have hcz20_0 : wc.cell? ⟨gb206, 0, none⟩ = some (.int .u8 a0_0) := (blk_cell BK206.out 0).trans rfl
          have hcz20_1 : wc.cell? ⟨gb206, 1, none⟩ = some (.int .u8 a0_1) := (blk_cell BK206.out 1).trans rfl
          have hcz20_2 : wc.cell? ⟨gb206, 2, none⟩ = some (.int .i64 a0_2) := (blk_cell BK206.out 2).trans rfl
          have hcz20_3 : wc.cell? ⟨gb206, 3, none⟩ = some (.int .u32 a0_3) := (blk_cell BK206.out 3).trans rfl
          have hcz20_4 : wc.cell? ⟨gb206, 4, none⟩ = some (.int .u16 a0_4) := (blk_cell BK206.out 4).trans rfl
          have hcz20_5 : wc.cell? ⟨gb206, 5, none⟩ = some (.int .i64 a0_5) := (blk_cell BK206.out 5).trans rfl
          have hcz20_6 : wc.cell? ⟨gb206, 6, none⟩ = some (.int .i64 a0_6) := (blk_cell BK206.out 6).trans rfl
          have hcz20_7 : wc.cell? ⟨gb206, 7, none⟩ = some (.int .i64 a0_7) := (blk_cell BK206.out 7).trans rfl
          have hcz20_8 : wc.cell? ⟨gb206, 8, none⟩ = some (.int .u64 a0_8) := (blk_cell BK206.out 8).trans rfl
          have hcz20_9 : wc.cell? ⟨gb206, 9, none⟩ = some (.int .u64 a0_9) := (blk_cell BK206.out 9).trans rfl
          have hcz20_10 : wc.cell? ⟨gb206, 10, none⟩ = some (.slice A0_10 l0_10.length c0_10) := (blk_cell BK206.out 10).trans rfl
          have hfz20_0 := blk_frozen BK206.out 0
          have hfz20_1 := blk_frozen BK206.out 1
          have hfz20_2 := blk_frozen BK206.out 2
          have hfz20_3 := blk_frozen BK206.out 3
          have hfz20_4 := blk_frozen BK206.out 4
          have hfz20_5 := blk_frozen BK206.out 5
          have hfz20_6 := blk_frozen BK206.out 6
          have hfz20_7 := blk_frozen BK206.out 7
          have hfz20_8 := blk_frozen BK206.out 8
          have hfz20_9 := blk_frozen BK206.out 9
          have hfz20_10 := blk_frozen BK206.out 10
          go_wp2
          go_meet
          case rel => exact ⟨_, (false), (by first | rfl | (simp; done) | (simp [*]; done)), H', ⟨by have := HJ1.out; first | omega | exact Nat.le_refl _⟩, ⟨by (with_reducible repeat (first | refine blk_drewN ?_ _ | refine blk_drew ?_ | refine blk_alloc ?_ _)); exact BK206.out⟩, ⟨by repeat (first | (with_reducible first | exact HB.out | apply below_alloc | apply pw_below_drewN | apply below_drew1 | refine below_set ?_ GE206.out) | exact HB.out)⟩, (by first | rfl | (simp [*]; done))⟩
        ·
         rw [if_neg c17] at H
         have c17b0 : (a0_0 == 7) = false := beq_eq_false_iff_ne.mpr c17
         have c17b1 : (a0_0 != 7) = true := bne_iff_ne.mpr c17
         have H' := Aside0.mk H
         clear H
         have hcz21_0 : wc.cell? ⟨gb206, 0, none⟩ = some (.int .u8 a0_0) := (blk_cell BK206.out 0).trans rfl
         have hcz21_1 : wc.cell? ⟨gb206, 1, none⟩ = some (.int .u8 a0_1) := (blk_cell BK206.out 1).trans rfl
         have hcz21_2 : wc.cell? ⟨gb206, 2, none⟩ = some (.int .i64 a0_2) := (blk_cell BK206.out 2).trans rfl
         have hcz21_3 : wc.cell? ⟨gb206, 3, none⟩ = some (.int .u32 a0_3) := (blk_cell BK206.out 3).trans rfl
         have hcz21_4 : wc.cell? ⟨gb206, 4, none⟩ = some (.int .u16 a0_4) := (blk_cell BK206.out 4).trans rfl
         have hcz21_5 : wc.cell? ⟨gb206, 5, none⟩ = some (.int .i64 a0_5) := (blk_cell BK206.out 5).trans rfl
         have hcz21_6 : wc.cell? ⟨gb206, 6, none⟩ = some (.int .i64 a0_6) := (blk_cell BK206.out 6).trans rfl
         have hcz21_7 : wc.cell? ⟨gb206, 7, none⟩ = some (.int .i64 a0_7) := (blk_cell BK206.out 7).trans rfl
         have hcz21_8 : wc.cell? ⟨gb206, 8, none⟩ = some (.int .u64 a0_8) := (blk_cell BK206.out 8).trans rfl
         have hcz21_9 : wc.cell? ⟨gb206, 9, none⟩ = some (.int .u64 a0_9) := (blk_cell BK206.out 9).trans rfl
         have hcz21_10 : wc.cell? ⟨gb206, 10, none⟩ = some (.slice A0_10 l0_10.length c0_10) := (blk_cell BK206.out 10).trans rfl
         have hfz21_0 := blk_frozen BK206.out 0
         have hfz21_1 := blk_frozen BK206.out 1
         have hfz21_2 := blk_frozen BK206.out 2
         have hfz21_3 := blk_frozen BK206.out 3
         have hfz21_4 := blk_frozen BK206.out 4
         have hfz21_5 := blk_frozen BK206.out 5
         have hfz21_6 := blk_frozen BK206.out 6
         have hfz21_7 := blk_frozen BK206.out 7
         have hfz21_8 := blk_frozen BK206.out 8
         have hfz21_9 := blk_frozen BK206.out 9
         have hfz21_10 := blk_frozen BK206.out 10
         go_wp2
         go_meet
         case rel => exact ⟨_, (true), (by first | rfl | (simp; done) | (simp [*]; done)), H', ⟨by have := HJ1.out; first | omega | exact Nat.le_refl _⟩, ⟨by (with_reducible repeat (first | refine blk_drewN ?_ _ | refine blk_drew ?_ | refine blk_alloc ?_ _)); exact BK206.out⟩, ⟨by repeat (first | (with_reducible first | exact HB.out | apply below_alloc | apply pw_below_drewN | apply below_drew1 | refine below_set ?_ GE206.out) | exact HB.out)⟩, (by first | rfl | (simp [*]; done))⟩
       ·
        rw [if_neg c16] at H
        have c16b0 : ((Int.tmod (wrap64 (Int.tdiv (wrap64 (a0_1)) 8)) 2) == 1) = false := by simpa using c16
        (try (have c16b1 : decide ((Int.tmod (wrap64 (Int.tdiv (wrap64 (a0_1)) 8)) 2) = 1) = false := by simpa using c16))
        (try (have c16b2 : ((Int.tmod (wrap64 (Int.tdiv (wrap64 (a0_1)) 8)) 2) == 1) = false := by simpa using c16))
        (try (have c16b3 : ¬ ((Int.tmod (wrap64 (Int.tdiv (wrap64 (a0_1)) 8)) 2) = 1) := by simpa using c16))
        clear c16
        by_cases c22 : ((Int.tmod (wrap64 (Int.tdiv (wrap64 (a0_1)) 16)) 2) == 1) = true
        ·
         rw [if_pos c22] at H
         have c22b0 : ((Int.tmod (wrap64 (Int.tdiv (wrap64 (a0_1)) 16)) 2) == 1) = true := c22
         (try (have c22b1 : decide ((Int.tmod (wrap64 (Int.tdiv (wrap64 (a0_1)) 16)) 2) = 1) = true := by simpa using c22))
         (try (have c22b2 : ((Int.tmod (wrap64 (Int.tdiv (wrap64 (a0_1)) 16)) 2) == 1) = true := by simpa using c22))
         clear c22
         have H' := Aside0.mk H
         clear H
         have hcz23_0 : wc.cell? ⟨gb206, 0, none⟩ = some (.int .u8 a0_0) := (blk_cell BK206.out 0).trans rfl
         have hcz23_1 : wc.cell? ⟨gb206, 1, none⟩ = some (.int .u8 a0_1) := (blk_cell BK206.out 1).trans rfl
         have hcz23_2 : wc.cell? ⟨gb206, 2, none⟩ = some (.int .i64 a0_2) := (blk_cell BK206.out 2).trans rfl
         have hcz23_3 : wc.cell? ⟨gb206, 3, none⟩ = some (.int .u32 a0_3) := (blk_cell BK206.out 3).trans rfl
         have hcz23_4 : wc.cell? ⟨gb206, 4, none⟩ = some (.int .u16 a0_4) := (blk_cell BK206.out 4).trans rfl
         have hcz23_5 : wc.cell? ⟨gb206, 5, none⟩ = some (.int .i64 a0_5) := (blk_cell BK206.out 5).trans rfl
         have hcz23_6 : wc.cell? ⟨gb206, 6, none⟩ = some (.int .i64 a0_6) := (blk_cell BK206.out 6).trans rfl
         have hcz23_7 : wc.cell? ⟨gb206, 7, none⟩ = some (.int .i64 a0_7) := (blk_cell BK206.out 7).trans rfl
         have hcz23_8 : wc.cell? ⟨gb206, 8, none⟩ = some (.int .u64 a0_8) := (blk_cell BK206.out 8).trans rfl
         have hcz23_9 : wc.cell? ⟨gb206, 9, none⟩ = some (.int .u64 a0_9) := (blk_cell BK206.out 9).trans rfl
         have hcz23_10 : wc.cell? ⟨gb206, 10, none⟩ = some (.slice A0_10 l0_10.length c0_10) := (blk_cell BK206.out 10).trans rfl
         have hfz23_0 := blk_frozen BK206.out 0
         have hfz23_1 := blk_frozen BK206.out 1
         have hfz23_2 := blk_frozen BK206.out 2
         have hfz23_3 := blk_frozen BK206.out 3
         have hfz23_4 := blk_frozen BK206.out 4
         have hfz23_5 := blk_frozen BK206.out 5
         have hfz23_6 := blk_frozen BK206.out 6
         have hfz23_7 := blk_frozen BK206.out 7
         have hfz23_8 := blk_frozen BK206.out 8
         have hfz23_9 := blk_frozen BK206.out 9
         have hfz23_10 := blk_frozen BK206.out 10
         go_wp2
         go_meet
         case rel => exact ⟨_, ((a0_0 != 12)), (by first | rfl | (simp; done) | (simp [*]; done)), H', ⟨by have := HJ1.out; first | omega | exact Nat.le_refl _⟩, ⟨by (with_reducible repeat (first | refine blk_drewN ?_ _ | refine blk_drew ?_ | refine blk_alloc ?_ _)); exact BK206.out⟩, ⟨by repeat (first | (with_reducible first | exact HB.out | apply below_alloc | apply pw_below_drewN | apply below_drew1 | refine below_set ?_ GE206.out) | exact HB.out)⟩, (by first | rfl | (simp [*]; done))⟩
        ·
         rw [if_neg c22] at H
         have c22b0 : ((Int.tmod (wrap64 (Int.tdiv (wrap64 (a0_1)) 16)) 2) == 1) = false := by simpa using c22
         (try (have c22b1 : decide ((Int.tmod (wrap64 (Int.tdiv (wrap64 (a0_1)) 16)) 2) = 1) = false := by simpa using c22))
         (try (have c22b2 : ((Int.tmod (wrap64 (Int.tdiv (wrap64 (a0_1)) 16)) 2) == 1) = false := by simpa using c22))
         (try (have c22b3 : ¬ ((Int.tmod (wrap64 (Int.tdiv (wrap64 (a0_1)) 16)) 2) = 1) := by simpa using c22))
         clear c22
         have H' := Aside0.mk H
         clear H
         have hcz24_0 : wc.cell? ⟨gb206, 0, none⟩ = some (.int .u8 a0_0) := (blk_cell BK206.out 0).trans rfl
         have hcz24_1 : wc.cell? ⟨gb206, 1, none⟩ = some (.int .u8 a0_1) := (blk_cell BK206.out 1).trans rfl
         have hcz24_2 : wc.cell? ⟨gb206, 2, none⟩ = some (.int .i64 a0_2) := (blk_cell BK206.out 2).trans rfl
         have hcz24_3 : wc.cell? ⟨gb206, 3, none⟩ = some (.int .u32 a0_3) := (blk_cell BK206.out 3).trans rfl
         have hcz24_4 : wc.cell? ⟨gb206, 4, none⟩ = some (.int .u16 a0_4) := (blk_cell BK206.out 4).trans rfl
         have hcz24_5 : wc.cell? ⟨gb206, 5, none⟩ = some (.int .i64 a0_5) := (blk_cell BK206.out 5).trans rfl
         have hcz24_6 : wc.cell? ⟨gb206, 6, none⟩ = some (.int .i64 a0_6) := (blk_cell BK206.out 6).trans rfl
         have hcz24_7 : wc.cell? ⟨gb206, 7, none⟩ = some (.int .i64 a0_7) := (blk_cell BK206.out 7).trans rfl
         have hcz24_8 : wc.cell? ⟨gb206, 8, none⟩ = some (.int .u64 a0_8) := (blk_cell BK206.out 8).trans rfl
         have hcz24_9 : wc.cell? ⟨gb206, 9, none⟩ = some (.int .u64 a0_9) := (blk_cell BK206.out 9).trans rfl
         have hcz24_10 : wc.cell? ⟨gb206, 10, none⟩ = some (.slice A0_10 l0_10.length c0_10) := (blk_cell BK206.out 10).trans rfl
         have hfz24_0 := blk_frozen BK206.out 0
         have hfz24_1 := blk_frozen BK206.out 1
         have hfz24_2 := blk_frozen BK206.out 2
         have hfz24_3 := blk_frozen BK206.out 3
         have hfz24_4 := blk_frozen BK206.out 4
         have hfz24_5 := blk_frozen BK206.out 5
         have hfz24_6 := blk_frozen BK206.out 6
         have hfz24_7 := blk_frozen BK206.out 7
         have hfz24_8 := blk_frozen BK206.out 8
         have hfz24_9 := blk_frozen BK206.out 9
         have hfz24_10 := blk_frozen BK206.out 10
         go_wp2
         go_meet
         case rel => exact ⟨_, (false), (by first | rfl | (simp; done) | (simp [*]; done)), H', ⟨by have := HJ1.out; first | omega | exact Nat.le_refl _⟩, ⟨by (with_reducible repeat (first | refine blk_drewN ?_ _ | refine blk_drew ?_ | refine blk_alloc ?_ _)); exact BK206.out⟩, ⟨by repeat (first | (with_reducible first | exact HB.out | apply below_alloc | apply pw_below_drewN | apply below_drew1 | refine below_set ?_ GE206.out) | exact HB.out)⟩, (by first | rfl | (simp [*]; done))⟩
      ·
       rw [if_neg c15] at H
       have c15b0 : (a0_0 == 5) = false := beq_eq_false_iff_ne.mpr c15
       have c15b1 : (a0_0 != 5) = true := bne_iff_ne.mpr c15
       by_cases c25 : a0_0 = 7
       ·
        rw [if_pos c25] at H
        have c25b0 : (a0_0 == 7) = true := beq_iff_eq.mpr c25
        have c25b1 : (a0_0 != 7) = false := bne_eq_false_iff_eq.mpr c25
        clear c25
        by_cases c26 : ((Int.tmod (wrap64 (Int.tdiv (wrap64 (a0_1)) 8)) 2) == 1) = true
        ·
         rw [if_pos c26] at H
         have c26b0 : ((Int.tmod (wrap64 (Int.tdiv (wrap64 (a0_1)) 8)) 2) == 1) = true := c26
         (try (have c26b1 : decide ((Int.tmod (wrap64 (Int.tdiv (wrap64 (a0_1)) 8)) 2) = 1) = true := by simpa using c26))
         (try (have c26b2 : ((Int.tmod (wrap64 (Int.tdiv (wrap64 (a0_1)) 8)) 2) == 1) = true := by simpa using c26))
         clear c26
         by_cases c27 : ((Int.tmod (wrap64 (Int.tdiv (wrap64 (a0_1)) 16)) 2) == 1) = true
         ·
          rw [if_pos c27] at H
          have c27b0 : ((Int.tmod (wrap64 (Int.tdiv (wrap64 (a0_1)) 16)) 2) == 1) = true := c27
          (try (have c27b1 : decide ((Int.tmod (wrap64 (Int.tdiv (wrap64 (a0_1)) 16)) 2) = 1) = true := by simpa using c27))
          (try (have c27b2 : ((Int.tmod (wrap64 (Int.tdiv (wrap64 (a0_1)) 16)) 2) == 1) = true := by simpa using c27))
          clear c27
          have H' := Aside0.mk H
          clear H
          have hcz28_0 : wc.cell? ⟨gb206, 0, none⟩ = some (.int .u8 a0_0) := (blk_cell BK206.out 0).trans rfl
          have hcz28_1 : wc.cell? ⟨gb206, 1, none⟩ = some (.int .u8 a0_1) := (blk_cell BK206.out 1).trans rfl
          have hcz28_2 : wc.cell? ⟨gb206, 2, none⟩ = some (.int .i64 a0_2) := (blk_cell BK206.out 2).trans rfl
          have hcz28_3 : wc.cell? ⟨gb206, 3, none⟩ = some (.int .u32 a0_3) := (blk_cell BK206.out 3).trans rfl
          have hcz28_4 : wc.cell? ⟨gb206, 4, none⟩ = some (.int .u16 a0_4) := (blk_cell BK206.out 4).trans rfl
          have hcz28_5 : wc.cell? ⟨gb206, 5, none⟩ = some (.int .i64 a0_5) := (blk_cell BK206.out 5).trans rfl
          have hcz28_6 : wc.cell? ⟨gb206, 6, none⟩ = some (.int .i64 a0_6) := (blk_cell BK206.out 6).trans rfl
          have hcz28_7 : wc.cell? ⟨gb206, 7, none⟩ = some (.int .i64 a0_7) := (blk_cell BK206.out 7).trans rfl
          have hcz28_8 : wc.cell? ⟨gb206, 8, none⟩ = some (.int .u64 a0_8) := (blk_cell BK206.out 8).trans rfl
          have hcz28_9 : wc.cell? ⟨gb206, 9, none⟩ = some (.int .u64 a0_9) := (blk_cell BK206.out 9).trans rfl
          have hcz28_10 : wc.cell? ⟨gb206, 10, none⟩ = some (.slice A0_10 l0_10.length c0_10) := (blk_cell BK206.out 10).trans rfl
          have hfz28_0 := blk_frozen BK206.out 0
          have hfz28_1 := blk_frozen BK206.out 1
          have hfz28_2 := blk_frozen BK206.out 2
          have hfz28_3 := blk_frozen BK206.out 3
          have hfz28_4 := blk_frozen BK206.out 4
          have hfz28_5 := blk_frozen BK206.out 5
          have hfz28_6 := blk_frozen BK206.out 6
          have hfz28_7 := blk_frozen BK206.out 7
          have hfz28_8 := blk_frozen BK206.out 8
          have hfz28_9 := blk_frozen BK206.out 9
          have hfz28_10 := blk_frozen BK206.out 10
          go_wp2
          go_meet
          case rel => exact ⟨_, ((a0_0 != 12)), (by first | rfl | (simp; done) | (simp [*]; done)), H', ⟨by have := HJ1.out; first | omega | exact Nat.le_refl _⟩, ⟨by (with_reducible repeat (first | refine blk_drewN ?_ _ | refine blk_drew ?_ | refine blk_alloc ?_ _)); exact BK206.out⟩, ⟨by repeat (first | (with_reducible first | exact HB.out | apply below_alloc | apply pw_below_drewN | apply below_drew1 | refine below_set ?_ GE206.out) | exact HB.out)⟩, (by first | rfl | (simp [*]; done))⟩
         ·
          rw [if_neg c27] at H
          have c27b0 : ((Int.tmod (wrap64 (Int.tdiv (wrap64 (a0_1)) 16)) 2) == 1) = false := by simpa using c27
          (try (have c27b1 : decide ((Int.tmod (wrap64 (Int.tdiv (wrap64 (a0_1)) 16)) 2) = 1) = false := by simpa using c27))
          (try (have c27b2 : ((Int.tmod (wrap64 (Int.tdiv (wrap64 (a0_1)) 16)) 2) == 1) = false := by simpa using c27))
          (try (have c27b3 : ¬ ((Int.tmod (wrap64 (Int.tdiv (wrap64 (a0_1)) 16)) 2) = 1) := by simpa using c27))
          clear c27
          have H' := Aside0.mk H
          clear H
          have hcz29_0 : wc.cell? ⟨gb206, 0, none⟩ = some (.int .u8 a0_0) := (blk_cell BK206.out 0).trans rfl
          have hcz29_1 : wc.cell? ⟨gb206, 1, none⟩ = some (.int .u8 a0_1) := (blk_cell BK206.out 1).trans rfl
          have hcz29_2 : wc.cell? ⟨gb206, 2, none⟩ = some (.int .i64 a0_2) := (blk_cell BK206.out 2).trans rfl
          have hcz29_3 : wc.cell? ⟨gb206, 3, none⟩ = some (.int .u32 a0_3) := (blk_cell BK206.out 3).trans rfl
          have hcz29_4 : wc.cell? ⟨gb206, 4, none⟩ = some (.int .u16 a0_4) := (blk_cell BK206.out 4).trans rfl
          have hcz29_5 : wc.cell? ⟨gb206, 5, none⟩ = some (.int .i64 a0_5) := (blk_cell BK206.out 5).trans rfl
          have hcz29_6 : wc.cell? ⟨gb206, 6, none⟩ = some (.int .i64 a0_6) := (blk_cell BK206.out 6).trans rfl
          have hcz29_7 : wc.cell? ⟨gb206, 7, none⟩ = some (.int .i64 a0_7) := (blk_cell BK206.out 7).trans rfl
          have hcz29_8 : wc.cell? ⟨gb206, 8, none⟩ = some (.int .u64 a0_8) := (blk_cell BK206.out 8).trans rfl
          have hcz29_9 : wc.cell? ⟨gb206, 9, none⟩ = some (.int .u64 a0_9) := (blk_cell BK206.out 9).trans rfl
          have hcz29_10 : wc.cell? ⟨gb206, 10, none⟩ = some (.slice A0_10 l0_10.length c0_10) := (blk_cell BK206.out 10).trans rfl
          have hfz29_0 := blk_frozen BK206.out 0
          have hfz29_1 := blk_frozen BK206.out 1
          have hfz29_2 := blk_frozen BK206.out 2
          have hfz29_3 := blk_frozen BK206.out 3
          have hfz29_4 := blk_frozen BK206.out 4
          have hfz29_5 := blk_frozen BK206.out 5
          have hfz29_6 := blk_frozen BK206.out 6
          have hfz29_7 := blk_frozen BK206.out 7
          have hfz29_8 := blk_frozen BK206.out 8
          have hfz29_9 := blk_frozen BK206.out 9
          have hfz29_10 := blk_frozen BK206.out 10
          go_wp2
          go_meet
          case rel => exact ⟨_, (false), (by first | rfl | (simp; done) | (simp [*]; done)), H', ⟨by have := HJ1.out; first | omega | exact Nat.le_refl _⟩, ⟨by (with_reducible repeat (first | refine blk_drewN ?_ _ | refine blk_drew ?_ | refine blk_alloc ?_ _)); exact BK206.out⟩, ⟨by repeat (first | (with_reducible first | exact HB.out | apply below_alloc | apply pw_below_drewN | apply below_drew1 | refine below_set ?_ GE206.out) | exact HB.out)⟩, (by first | rfl | (simp [*]; done))⟩
        ·
         rw [if_neg c26] at H
         have c26b0 : ((Int.tmod (wrap64 (Int.tdiv (wrap64 (a0_1)) 8)) 2) == 1) = false := by simpa using c26
         (try (have c26b1 : decide ((Int.tmod (wrap64 (Int.tdiv (wrap64 (a0_1)) 8)) 2) = 1) = false := by simpa using c26))
         (try (have c26b2 : ((Int.tmod (wrap64 (Int.tdiv (wrap64 (a0_1)) 8)) 2) == 1) = false := by simpa using c26))
         (try (have c26b3 : ¬ ((Int.tmod (wrap64 (Int.tdiv (wrap64 (a0_1)) 8)) 2) = 1) := by simpa using c26))
         clear c26
         by_cases c30 : ((Int.tmod (wrap64 (Int.tdiv (wrap64 (a0_1)) 16)) 2) == 1) = true
         ·
          rw [if_pos c30] at H
          have c30b0 : ((Int.tmod (wrap64 (Int.tdiv (wrap64 (a0_1)) 16)) 2) == 1) = true := c30
          (try (have c30b1 : decide ((Int.tmod (wrap64 (Int.tdiv (wrap64 (a0_1)) 16)) 2) = 1) = true := by simpa using c30))
          (try (have c30b2 : ((Int.tmod (wrap64 (Int.tdiv (wrap64 (a0_1)) 16)) 2) == 1) = true := by simpa using c30))
          clear c30
          have H' := Aside0.mk H
          clear H
          have hcz31_0 : wc.cell? ⟨gb206, 0, none⟩ = some (.int .u8 a0_0) := (blk_cell BK206.out 0).trans rfl
          have hcz31_1 : wc.cell? ⟨gb206, 1, none⟩ = some (.int .u8 a0_1) := (blk_cell BK206.out 1).trans rfl
          have hcz31_2 : wc.cell? ⟨gb206, 2, none⟩ = some (.int .i64 a0_2) := (blk_cell BK206.out 2).trans rfl
          have hcz31_3 : wc.cell? ⟨gb206, 3, none⟩ = some (.int .u32 a0_3) := (blk_cell BK206.out 3).trans rfl
          have hcz31_4 : wc.cell? ⟨gb206, 4, none⟩ = some (.int .u16 a0_4) := (blk_cell BK206.out 4).trans rfl
          have hcz31_5 : wc.cell? ⟨gb206, 5, none⟩ = some (.int .i64 a0_5) := (blk_cell BK206.out 5).trans rfl
          have hcz31_6 : wc.cell? ⟨gb206, 6, none⟩ = some (.int .i64 a0_6) := (blk_cell BK206.out 6).trans rfl
          have hcz31_7 : wc.cell? ⟨gb206, 7, none⟩ = some (.int .i64 a0_7) := (blk_cell BK206.out 7).trans rfl
          have hcz31_8 : wc.cell? ⟨gb206, 8, none⟩ = some (.int .u64 a0_8) := (blk_cell BK206.out 8).trans rfl
          have hcz31_9 : wc.cell? ⟨gb206, 9, none⟩ = some (.int .u64 a0_9) := (blk_cell BK206.out 9).trans rfl
          have hcz31_10 : wc.cell? ⟨gb206, 10, none⟩ = some (.slice A0_10 l0_10.length c0_10) := (blk_cell BK206.out 10).trans rfl
          have hfz31_0 := blk_frozen BK206.out 0
          have hfz31_1 := blk_frozen BK206.out 1
          have hfz31_2 := blk_frozen BK206.out 2
          have hfz31_3 := blk_frozen BK206.out 3
          have hfz31_4 := blk_frozen BK206.out 4
          have hfz31_5 := blk_frozen BK206.out 5
          have hfz31_6 := blk_frozen BK206.out 6
          have hfz31_7 := blk_frozen BK206.out 7
          have hfz31_8 := blk_frozen BK206.out 8
          have hfz31_9 := blk_frozen BK206.out 9
          have hfz31_10 := blk_frozen BK206.out 10
          go_wp2
          go_meet
          case rel => exact ⟨_, ((a0_0 != 12)), (by first | rfl | (simp; done) | (simp [*]; done)), H', ⟨by have := HJ1.out; first | omega | exact Nat.le_refl _⟩, ⟨by (with_reducible repeat (first | refine blk_drewN ?_ _ | refine blk_drew ?_ | refine blk_alloc ?_ _)); exact BK206.out⟩, ⟨by repeat (first | (with_reducible first | exact HB.out | apply below_alloc | apply pw_below_drewN | apply below_drew1 | refine below_set ?_ GE206.out) | exact HB.out)⟩, (by first | rfl | (simp [*]; done))⟩
         ·
          rw [if_neg c30] at H
          have c30b0 : ((Int.tmod (wrap64 (Int.tdiv (wrap64 (a0_1)) 16)) 2) == 1) = false := by simpa using c30
          (try (have c30b1 : decide ((Int.tmod (wrap64 (Int.tdiv (wrap64 (a0_1)) 16)) 2) = 1) = false := by simpa using c30))
          (try (have c30b2 : ((Int.tmod (wrap64 (Int.tdiv (wrap64 (a0_1)) 16)) 2) == 1) = false := by simpa using c30))
          (try (have c30b3 : ¬ ((Int.tmod (wrap64 (Int.tdiv (wrap64 (a0_1)) 16)) 2) = 1) := by simpa using c30))
          clear c30
          have H' := Aside0.mk H
          clear H
          have hcz32_0 : wc.cell? ⟨gb206, 0, none⟩ = some (.int .u8 a0_0) := (blk_cell BK206.out 0).trans rfl
          have hcz32_1 : wc.cell? ⟨gb206, 1, none⟩ = some (.int .u8 a0_1) := (blk_cell BK206.out 1).trans rfl
          have hcz32_2 : wc.cell? ⟨gb206, 2, none⟩ = some (.int .i64 a0_2) := (blk_cell BK206.out 2).trans rfl
          have hcz32_3 : wc.cell? ⟨gb206, 3, none⟩ = some (.int .u32 a0_3) := (blk_cell BK206.out 3).trans rfl
          have hcz32_4 : wc.cell? ⟨gb206, 4, none⟩ = some (.int .u16 a0_4) := (blk_cell BK206.out 4).trans rfl
          have hcz32_5 : wc.cell? ⟨gb206, 5, none⟩ = some (.int .i64 a0_5) := (blk_cell BK206.out 5).trans rfl
          have hcz32_6 : wc.cell? ⟨gb206, 6, none⟩ = some (.int .i64 a0_6) := (blk_cell BK206.out 6).trans rfl
          have hcz32_7 : wc.cell? ⟨gb206, 7, none⟩ = some (.int .i64 a0_7) := (blk_cell BK206.out 7).trans rfl
          have hcz32_8 : wc.cell? ⟨gb206, 8, none⟩ = some (.int .u64 a0_8) := (blk_cell BK206.out 8).trans rfl
          have hcz32_9 : wc.cell? ⟨gb206, 9, none⟩ = some (.int .u64 a0_9) := (blk_cell BK206.out 9).trans rfl
          have hcz32_10 : wc.cell? ⟨gb206, 10, none⟩ = some (.slice A0_10 l0_10.length c0_10) := (blk_cell BK206.out 10).trans rfl
          have hfz32_0 := blk_frozen BK206.out 0
          have hfz32_1 := blk_frozen BK206.out 1
          have hfz32_2 := blk_frozen BK206.out 2
          have hfz32_3 := blk_frozen BK206.out 3
          have hfz32_4 := blk_frozen BK206.out 4
          have hfz32_5 := blk_frozen BK206.out 5
          have hfz32_6 := blk_frozen BK206.out 6
          have hfz32_7 := blk_frozen BK206.out 7
          have hfz32_8 := blk_frozen BK206.out 8
          have hfz32_9 := blk_frozen BK206.out 9
          have hfz32_10 := blk_frozen BK206.out 10
          go_wp2
          go_meet
          case rel => exact ⟨_, (false), (by first | rfl | (simp; done) | (simp [*]; done)), H', ⟨by have := HJ1.out; first | omega | exact Nat.le_refl _⟩, ⟨by (with_reducible repeat (first | refine blk_drewN ?_ _ | refine blk_drew ?_ | refine blk_alloc ?_ _)); exact BK206.out⟩, ⟨by repeat (first | (with_reducible first | exact HB.out | apply below_alloc | apply pw_below_drewN | apply below_drew1 | refine below_set ?_ GE206.out) | exact HB.out)⟩, (by first | rfl | (simp [*]; done))⟩
       ·
        rw [if_neg c25] at H
        have c25b0 : (a0_0 == 7) = false := beq_eq_false_iff_ne.mpr c25
        have c25b1 : (a0_0 != 7) = true := bne_iff_ne.mpr c25
        have H' := Aside0.mk H
        clear H
        have hcz33_0 : wc.cell? ⟨gb206, 0, none⟩ = some (.int .u8 a0_0) := (blk_cell BK206.out 0).trans rfl
        have hcz33_1 : wc.cell? ⟨gb206, 1, none⟩ = some (.int .u8 a0_1) := (blk_cell BK206.out 1).trans rfl
        have hcz33_2 : wc.cell? ⟨gb206, 2, none⟩ = some (.int .i64 a0_2) := (blk_cell BK206.out 2).trans rfl
        have hcz33_3 : wc.cell? ⟨gb206, 3, none⟩ = some (.int .u32 a0_3) := (blk_cell BK206.out 3).trans rfl
        have hcz33_4 : wc.cell? ⟨gb206, 4, none⟩ = some (.int .u16 a0_4) := (blk_cell BK206.out 4).trans rfl
        have hcz33_5 : wc.cell? ⟨gb206, 5, none⟩ = some (.int .i64 a0_5) := (blk_cell BK206.out 5).trans rfl
        have hcz33_6 : wc.cell? ⟨gb206, 6, none⟩ = some (.int .i64 a0_6) := (blk_cell BK206.out 6).trans rfl
        have hcz33_7 : wc.cell? ⟨gb206, 7, none⟩ = some (.int .i64 a0_7) := (blk_cell BK206.out 7).trans rfl
        have hcz33_8 : wc.cell? ⟨gb206, 8, none⟩ = some (.int .u64 a0_8) := (blk_cell BK206.out 8).trans rfl
        have hcz33_9 : wc.cell? ⟨gb206, 9, none⟩ = some (.int .u64 a0_9) := (blk_cell BK206.out 9).trans rfl
        have hcz33_10 : wc.cell? ⟨gb206, 10, none⟩ = some (.slice A0_10 l0_10.length c0_10) := (blk_cell BK206.out 10).trans rfl
        have hfz33_0 := blk_frozen BK206.out 0
        have hfz33_1 := blk_frozen BK206.out 1
        have hfz33_2 := blk_frozen BK206.out 2
        have hfz33_3 := blk_frozen BK206.out 3
        have hfz33_4 := blk_frozen BK206.out 4
        have hfz33_5 := blk_frozen BK206.out 5
        have hfz33_6 := blk_frozen BK206.out 6
        have hfz33_7 := blk_frozen BK206.out 7
        have hfz33_8 := blk_frozen BK206.out 8
        have hfz33_9 := blk_frozen BK206.out 9
        have hfz33_10 := blk_frozen BK206.out 10
        go_wp2
        go_meet
        case rel => exact ⟨_, (true), (by first | rfl | (simp; done) | (simp [*]; done)), H', ⟨by have := HJ1.out; first | omega | exact Nat.le_refl _⟩, ⟨by (with_reducible repeat (first | refine blk_drewN ?_ _ | refine blk_drew ?_ | refine blk_alloc ?_ _)); exact BK206.out⟩, ⟨by repeat (first | (with_reducible first | exact HB.out | apply below_alloc | apply pw_below_drewN | apply below_drew1 | refine below_set ?_ GE206.out) | exact HB.out)⟩, (by first | rfl | (simp [*]; done))⟩
     ·
      rw [if_neg c14] at H
      have c14b0 : ((Int.tmod (wrap64 (Int.tdiv (wrap64 (a0_1)) 4)) 2) == 1) = false := by simpa using c14
      (try (have c14b1 : decide ((Int.tmod (wrap64 (Int.tdiv (wrap64 (a0_1)) 4)) 2) = 1) = false := by simpa using c14))
      (try (have c14b2 : ((Int.tmod (wrap64 (Int.tdiv (wrap64 (a0_1)) 4)) 2) == 1) = false := by simpa using c14))
      (try (have c14b3 : ¬ ((Int.tmod (wrap64 (Int.tdiv (wrap64 (a0_1)) 4)) 2) = 1) := by simpa using c14))
      clear c14
      (first | rw [c14b0] | (simp only [i64_w, i32_w]; rw [c14b0]) | skip)
      by_cases c34 : ((Int.tmod (wrap64 (Int.tdiv (wrap64 (a0_1)) 8)) 2) == 1) = true
      ·
       rw [if_pos c34] at H
       have c34b0 : ((Int.tmod (wrap64 (Int.tdiv (wrap64 (a0_1)) 8)) 2) == 1) = true := c34
       (try (have c34b1 : decide ((Int.tmod (wrap64 (Int.tdiv (wrap64 (a0_1)) 8)) 2) = 1) = true := by simpa using c34))
       (try (have c34b2 : ((Int.tmod (wrap64 (Int.tdiv (wrap64 (a0_1)) 8)) 2) == 1) = true := by simpa using c34))
       clear c34
       by_cases c35 : a0_0 = 7
       ·
        rw [if_pos c35] at H
        have c35b0 : (a0_0 == 7) = true := beq_iff_eq.mpr c35
        have c35b1 : (a0_0 != 7) = false := bne_eq_false_iff_eq.mpr c35
        clear c35
        by_cases c36 : ((Int.tmod (wrap64 (Int.tdiv (wrap64 (a0_1)) 16)) 2) == 1) = true
        ·
         rw [if_pos c36] at H
         have c36b0 : ((Int.tmod (wrap64 (Int.tdiv (wrap64 (a0_1)) 16)) 2) == 1) = true := c36
         (try (have c36b1 : decide ((Int.tmod (wrap64 (Int.tdiv (wrap64 (a0_1)) 16)) 2) = 1) = true := by simpa using c36))
         (try (have c36b2 : ((Int.tmod (wrap64 (Int.tdiv (wrap64 (a0_1)) 16)) 2) == 1) = true := by simpa using c36))
         clear c36
         have H' := Aside0.mk H
         clear H
         have hcz37_0 : wc.cell? ⟨gb206, 0, none⟩ = some (.int .u8 a0_0) := (blk_cell BK206.out 0).trans rfl
         have hcz37_1 : wc.cell? ⟨gb206, 1, none⟩ = some (.int .u8 a0_1) := (blk_cell BK206.out 1).trans rfl
         have hcz37_2 : wc.cell? ⟨gb206, 2, none⟩ = some (.int .i64 a0_2) := (blk_cell BK206.out 2).trans rfl
         have hcz37_3 : wc.cell? ⟨gb206, 3, none⟩ = some (.int .u32 a0_3) := (blk_cell BK206.out 3).trans rfl
         have hcz37_4 : wc.cell? ⟨gb206, 4, none⟩ = some (.int .u16 a0_4) := (blk_cell BK206.out 4).trans rfl
         have hcz37_5 : wc.cell? ⟨gb206, 5, none⟩ = some (.int .i64 a0_5) := (blk_cell BK206.out 5).trans rfl
         have hcz37_6 : wc.cell? ⟨gb206, 6, none⟩ = some (.int .i64 a0_6) := (blk_cell BK206.out 6).trans rfl
         have hcz37_7 : wc.cell? ⟨gb206, 7, none⟩ = some (.int .i64 a0_7) := (blk_cell BK206.out 7).trans rfl
         have hcz37_8 : wc.cell? ⟨gb206, 8, none⟩ = some (.int .u64 a0_8) := (blk_cell BK206.out 8).trans rfl
         have hcz37_9 : wc.cell? ⟨gb206, 9, none⟩ = some (.int .u64 a0_9) := (blk_cell BK206.out 9).trans rfl
         have hcz37_10 : wc.cell? ⟨gb206, 10, none⟩ = some (.slice A0_10 l0_10.length c0_10) := (blk_cell BK206.out 10).trans rfl
         have hfz37_0 := blk_frozen BK206.out 0
         have hfz37_1 := blk_frozen BK206.out 1
         have hfz37_2 := blk_frozen BK206.out 2
         have hfz37_3 := blk_frozen BK206.out 3
         have hfz37_4 := blk_frozen BK206.out 4
         have hfz37_5 := blk_frozen BK206.out 5
         have hfz37_6 := blk_frozen BK206.out 6
         have hfz37_7 := blk_frozen BK206.out 7
         have hfz37_8 := blk_frozen BK206.out 8
         have hfz37_9 := blk_frozen BK206.out 9
         have hfz37_10 := blk_frozen BK206.out 10
         go_wp2
         go_meet
         case rel => exact ⟨_, ((a0_0 != 12)), (by first | rfl | (simp; done) | (simp [*]; done)), H', ⟨by have := HJ1.out; first | omega | exact Nat.le_refl _⟩, ⟨by (with_reducible repeat (first | refine blk_drewN ?_ _ | refine blk_drew ?_ | refine blk_alloc ?_ _)); exact BK206.out⟩, ⟨by repeat (first | (with_reducible first | exact HB.out | apply below_alloc | apply pw_below_drewN | apply below_drew1 | refine below_set ?_ GE206.out) | exact HB.out)⟩, (by first | rfl | (simp [*]; done))⟩
        ·
         rw [if_neg c36] at H
         have c36b0 : ((Int.tmod (wrap64 (Int.tdiv (wrap64 (a0_1)) 16)) 2) == 1) = false := by simpa using c36
         (try (have c36b1 : decide ((Int.tmod (wrap64 (Int.tdiv (wrap64 (a0_1)) 16)) 2) = 1) = false := by simpa using c36))
         (try (have c36b2 : ((Int.tmod (wrap64 (Int.tdiv (wrap64 (a0_1)) 16)) 2) == 1) = false := by simpa using c36))
         (try (have c36b3 : ¬ ((Int.tmod (wrap64 (Int.tdiv (wrap64 (a0_1)) 16)) 2) = 1) := by simpa using c36))
         clear c36
         have H' := Aside0.mk H
         clear H
         have hcz38_0 : wc.cell? ⟨gb206, 0, none⟩ = some (.int .u8 a0_0) := (blk_cell BK206.out 0).trans rfl
         have hcz38_1 : wc.cell? ⟨gb206, 1, none⟩ = some (.int .u8 a0_1) := (blk_cell BK206.out 1).trans rfl
         have hcz38_2 : wc.cell? ⟨gb206, 2, none⟩ = some (.int .i64 a0_2) := (blk_cell BK206.out 2).trans rfl
         have hcz38_3 : wc.cell? ⟨gb206, 3, none⟩ = some (.int .u32 a0_3) := (blk_cell BK206.out 3).trans rfl
         have hcz38_4 : wc.cell? ⟨gb206, 4, none⟩ = some (.int .u16 a0_4) := (blk_cell BK206.out 4).trans rfl
         have hcz38_5 : wc.cell? ⟨gb206, 5, none⟩ = some (.int .i64 a0_5) := (blk_cell BK206.out 5).trans rfl
         have hcz38_6 : wc.cell? ⟨gb206, 6, none⟩ = some (.int .i64 a0_6) := (blk_cell BK206.out 6).trans rfl
         have hcz38_7 : wc.cell? ⟨gb206, 7, none⟩ = some (.int .i64 a0_7) := (blk_cell BK206.out 7).trans rfl
         have hcz38_8 : wc.cell? ⟨gb206, 8, none⟩ = some (.int .u64 a0_8) := (blk_cell BK206.out 8).trans rfl
         have hcz38_9 : wc.cell? ⟨gb206, 9, none⟩ = some (.int .u64 a0_9) := (blk_cell BK206.out 9).trans rfl
         have hcz38_10 : wc.cell? ⟨gb206, 10, none⟩ = some (.slice A0_10 l0_10.length c0_10) := (blk_cell BK206.out 10).trans rfl
         have hfz38_0 := blk_frozen BK206.out 0
         have hfz38_1 := blk_frozen BK206.out 1
         have hfz38_2 := blk_frozen BK206.out 2
         have hfz38_3 := blk_frozen BK206.out 3
         have hfz38_4 := blk_frozen BK206.out 4
         have hfz38_5 := blk_frozen BK206.out 5
         have hfz38_6 := blk_frozen BK206.out 6
         have hfz38_7 := blk_frozen BK206.out 7
         have hfz38_8 := blk_frozen BK206.out 8
         have hfz38_9 := blk_frozen BK206.out 9
         have hfz38_10 := blk_frozen BK206.out 10
         go_wp2
         go_meet
         case rel => exact ⟨_, (false), (by first | rfl | (simp; done) | (simp [*]; done)), H', ⟨by have := HJ1.out; first | omega | exact Nat.le_refl _⟩, ⟨by (with_reducible repeat (first | refine blk_drewN ?_ _ | refine blk_drew ?_ | refine blk_alloc ?_ _)); exact BK206.out⟩, ⟨by repeat (first | (with_reducible first | exact HB.out | apply below_alloc | apply pw_below_drewN | apply below_drew1 | refine below_set ?_ GE206.out) | exact HB.out)⟩, (by first | rfl | (simp [*]; done))⟩
       ·
        rw [if_neg c35] at H
        have c35b0 : (a0_0 == 7) = false := beq_eq_false_iff_ne.mpr c35
        have c35b1 : (a0_0 != 7) = true := bne_iff_ne.mpr c35
        have H' := Aside0.mk H
        clear H
        have hcz39_0 : wc.cell? ⟨gb206, 0, none⟩ = some (.int .u8 a0_0) := (blk_cell BK206.out 0).trans rfl
        have hcz39_1 : wc.cell? ⟨gb206, 1, none⟩ = some (.int .u8 a0_1) := (blk_cell BK206.out 1).trans rfl
        have hcz39_2 : wc.cell? ⟨gb206, 2, none⟩ = some (.int .i64 a0_2) := (blk_cell BK206.out 2).trans rfl
        have hcz39_3 : wc.cell? ⟨gb206, 3, none⟩ = some (.int .u32 a0_3) := (blk_cell BK206.out 3).trans rfl
        have hcz39_4 : wc.cell? ⟨gb206, 4, none⟩ = some (.int .u16 a0_4) := (blk_cell BK206.out 4).trans rfl
        have hcz39_5 : wc.cell? ⟨gb206, 5, none⟩ = some (.int .i64 a0_5) := (blk_cell BK206.out 5).trans rfl
        have hcz39_6 : wc.cell? ⟨gb206, 6, none⟩ = some (.int .i64 a0_6) := (blk_cell BK206.out 6).trans rfl
        have hcz39_7 : wc.cell? ⟨gb206, 7, none⟩ = some (.int .i64 a0_7) := (blk_cell BK206.out 7).trans rfl
        have hcz39_8 : wc.cell? ⟨gb206, 8, none⟩ = some (.int .u64 a0_8) := (blk_cell BK206.out 8).trans rfl
        have hcz39_9 : wc.cell? ⟨gb206, 9, none⟩ = some (.int .u64 a0_9) := (blk_cell BK206.out 9).trans rfl
        have hcz39_10 : wc.cell? ⟨gb206, 10, none⟩ = some (.slice A0_10 l0_10.length c0_10) := (blk_cell BK206.out 10).trans rfl
        have hfz39_0 := blk_frozen BK206.out 0
        have hfz39_1 := blk_frozen BK206.out 1
        have hfz39_2 := blk_frozen BK206.out 2
        have hfz39_3 := blk_frozen BK206.out 3
        have hfz39_4 := blk_frozen BK206.out 4
        have hfz39_5 := blk_frozen BK206.out 5
        have hfz39_6 := blk_frozen BK206.out 6
        have hfz39_7 := blk_frozen BK206.out 7
        have hfz39_8 := blk_frozen BK206.out 8
        have hfz39_9 := blk_frozen BK206.out 9
        have hfz39_10 := blk_frozen BK206.out 10
        go_wp2
        go_meet
        case rel => exact ⟨_, (true), (by first | rfl | (simp; done) | (simp [*]; done)), H', ⟨by have := HJ1.out; first | omega | exact Nat.le_refl _⟩, ⟨by (with_reducible repeat (first | refine blk_drewN ?_ _ | refine blk_drew ?_ | refine blk_alloc ?_ _)); exact BK206.out⟩, ⟨by repeat (first | (with_reducible first | exact HB.out | apply below_alloc | apply pw_below_drewN | apply below_drew1 | refine below_set ?_ GE206.out) | exact HB.out)⟩, (by first | rfl | (simp [*]; done))⟩
      ·
       rw [if_neg c34] at H
       have c34b0 : ((Int.tmod (wrap64 (Int.tdiv (wrap64 (a0_1)) 8)) 2) == 1) = false := by simpa using c34
       (try (have c34b1 : decide ((Int.tmod (wrap64 (Int.tdiv (wrap64 (a0_1)) 8)) 2) = 1) = false := by simpa using c34))
       (try (have c34b2 : ((Int.tmod (wrap64 (Int.tdiv (wrap64 (a0_1)) 8)) 2) == 1) = false := by simpa using c34))
       (try (have c34b3 : ¬ ((Int.tmod (wrap64 (Int.tdiv (wrap64 (a0_1)) 8)) 2) = 1) := by simpa using c34))
       clear c34
       by_cases c40 : ((Int.tmod (wrap64 (Int.tdiv (wrap64 (a0_1)) 16)) 2) == 1) = true
       ·
        rw [if_pos c40] at H
        have c40b0 : ((Int.tmod (wrap64 (Int.tdiv (wrap64 (a0_1)) 16)) 2) == 1) = true := c40
        (try (have c40b1 : decide ((Int.tmod (wrap64 (Int.tdiv (wrap64 (a0_1)) 16)) 2) = 1) = true := by simpa using c40))
        (try (have c40b2 : ((Int.tmod (wrap64 (Int.tdiv (wrap64 (a0_1)) 16)) 2) == 1) = true := by simpa using c40))
        clear c40
        have H' := Aside0.mk H
        clear H
        have hcz41_0 : wc.cell? ⟨gb206, 0, none⟩ = some (.int .u8 a0_0) := (blk_cell BK206.out 0).trans rfl
        have hcz41_1 : wc.cell? ⟨gb206, 1, none⟩ = some (.int .u8 a0_1) := (blk_cell BK206.out 1).trans rfl
        have hcz41_2 : wc.cell? ⟨gb206, 2, none⟩ = some (.int .i64 a0_2) := (blk_cell BK206.out 2).trans rfl
        have hcz41_3 : wc.cell? ⟨gb206, 3, none⟩ = some (.int .u32 a0_3) := (blk_cell BK206.out 3).trans rfl
        have hcz41_4 : wc.cell? ⟨gb206, 4, none⟩ = some (.int .u16 a0_4) := (blk_cell BK206.out 4).trans rfl
        have hcz41_5 : wc.cell? ⟨gb206, 5, none⟩ = some (.int .i64 a0_5) := (blk_cell BK206.out 5).trans rfl
        have hcz41_6 : wc.cell? ⟨gb206, 6, none⟩ = some (.int .i64 a0_6) := (blk_cell BK206.out 6).trans rfl
        have hcz41_7 : wc.cell? ⟨gb206, 7, none⟩ = some (.int .i64 a0_7) := (blk_cell BK206.out 7).trans rfl
        have hcz41_8 : wc.cell? ⟨gb206, 8, none⟩ = some (.int .u64 a0_8) := (blk_cell BK206.out 8).trans rfl
        have hcz41_9 : wc.cell? ⟨gb206, 9, none⟩ = some (.int .u64 a0_9) := (blk_cell BK206.out 9).trans rfl
        have hcz41_10 : wc.cell? ⟨gb206, 10, none⟩ = some (.slice A0_10 l0_10.length c0_10) := (blk_cell BK206.out 10).trans rfl
        have hfz41_0 := blk_frozen BK206.out 0
        have hfz41_1 := blk_frozen BK206.out 1
        have hfz41_2 := blk_frozen BK206.out 2
        have hfz41_3 := blk_frozen BK206.out 3
        have hfz41_4 := blk_frozen BK206.out 4
        have hfz41_5 := blk_frozen BK206.out 5
        have hfz41_6 := blk_frozen BK206.out 6
        have hfz41_7 := blk_frozen BK206.out 7
        have hfz41_8 := blk_frozen BK206.out 8
        have hfz41_9 := blk_frozen BK206.out 9
        have hfz41_10 := blk_frozen BK206.out 10
        go_wp2
        go_meet
        case rel => exact ⟨_, ((a0_0 != 12)), (by first | rfl | (simp; done) | (simp [*]; done)), H', ⟨by have := HJ1.out; first | omega | exact Nat.le_refl _⟩, ⟨by (with_reducible repeat (first | refine blk_drewN ?_ _ | refine blk_drew ?_ | refine blk_alloc ?_ _)); exact BK206.out⟩, ⟨by repeat (first | (with_reducible first | exact HB.out | apply below_alloc | apply pw_below_drewN | apply below_drew1 | refine below_set ?_ GE206.out) | exact HB.out)⟩, (by first | rfl | (simp [*]; done))⟩
       ·
        rw [if_neg c40] at H
        have c40b0 : ((Int.tmod (wrap64 (Int.tdiv (wrap64 (a0_1)) 16)) 2) == 1) = false := by simpa using c40
        (try (have c40b1 : decide ((Int.tmod (wrap64 (Int.tdiv (wrap64 (a0_1)) 16)) 2) = 1) = false := by simpa using c40))
        (try (have c40b2 : ((Int.tmod (wrap64 (Int.tdiv (wrap64 (a0_1)) 16)) 2) == 1) = false := by simpa using c40))
        (try (have c40b3 : ¬ ((Int.tmod (wrap64 (Int.tdiv (wrap64 (a0_1)) 16)) 2) = 1) := by simpa using c40))
        clear c40
        have H' := Aside0.mk H
        clear H
        go_wp2
        go_meet
        case rel => exact ⟨_, (false), (by first | rfl | (simp; done) | (simp [*]; done)), H', ⟨by have := HJ1.out; first | omega | exact Nat.le_refl _⟩, ⟨by (with_reducible repeat (first | refine blk_drewN ?_ _ | refine blk_drew ?_ | refine blk_alloc ?_ _)); exact BK206.out⟩, ⟨by repeat (first | (with_reducible first | exact HB.out | apply below_alloc | apply pw_below_drewN | apply below_drew1 | refine below_set ?_ GE206.out) | exact HB.out)⟩, (by first | rfl | (simp [*]; done))⟩
    case rest =>
     clear HC13
     try clear c1
     try clear c2
     try clear p2
     try clear c3
     try clear c4
     try clear p6
     try clear c12
     try clear c14
     try clear c14b0
     try clear c14b1
     try clear c14b2
     try clear c15
     try clear c15b0
     try clear c15b1
     try clear c16
     try clear c16b0
     try clear c16b1
     try clear c16b2
     try clear c17
     try clear c17b0
     try clear c17b1
     try clear c18
     try clear c18b0
     try clear c18b1
     try clear c18b2
     try clear c22
     try clear c22b0
     try clear c22b1
     try clear c22b2
     try clear c25
     try clear c25b0
     try clear c25b1
     try clear c26
     try clear c26b0
     try clear c26b1
     try clear c26b2
     try clear c27
     try clear c27b0
     try clear c27b1
     try clear c27b2
     try clear c30
     try clear c30b0
     try clear c30b1
     try clear c30b2
     try clear c34
     try clear c34b0
     try clear c34b1
     try clear c34b2
     try clear c35
     try clear c35b0
     try clear c35b1
     try clear c36
     try clear c36b0
     try clear c36b1
     try clear c36b2
     try clear c40
     try clear c40b0
     try clear c40b1
     try clear c40b2
     try clear hcz19_0
     try clear hcz19_1
     try clear hcz19_10
     try clear hcz19_2
     try clear hcz19_3
     try clear hcz19_4
     try clear hcz19_5
     try clear hcz19_6
     try clear hcz19_7
     try clear hcz19_8
     try clear hcz19_9
     try clear hcz20_0
     try clear hcz20_1
     try clear hcz20_10
     try clear hcz20_2
     try clear hcz20_3
     try clear hcz20_4
     try clear hcz20_5
     try clear hcz20_6
     try clear hcz20_7
     try clear hcz20_8
     try clear hcz20_9
     try clear hcz21_0
     try clear hcz21_1
     try clear hcz21_10
     try clear hcz21_2
     try clear hcz21_3
     try clear hcz21_4
     try clear hcz21_5
     try clear hcz21_6
     try clear hcz21_7
     try clear hcz21_8
     try clear hcz21_9
     try clear hcz23_0
     try clear hcz23_1
     try clear hcz23_10
     try clear hcz23_2
     try clear hcz23_3
     try clear hcz23_4
     try clear hcz23_5
     try clear hcz23_6
     try clear hcz23_7
     try clear hcz23_8
     try clear hcz23_9
     try clear hcz24_0
     try clear hcz24_1
     try clear hcz24_10
     try clear hcz24_2
     try clear hcz24_3
     try clear hcz24_4
     try clear hcz24_5
     try clear hcz24_6
     try clear hcz24_7
     try clear hcz24_8
     try clear hcz24_9
     try clear hcz28_0
     try clear hcz28_1
     try clear hcz28_10
     try clear hcz28_2
     try clear hcz28_3
     try clear hcz28_4
     try clear hcz28_5
     try clear hcz28_6
     try clear hcz28_7
     try clear hcz28_8
     try clear hcz28_9
     try clear hcz29_0
     try clear hcz29_1
     try clear hcz29_10
     try clear hcz29_2
     try clear hcz29_3
     try clear hcz29_4
     try clear hcz29_5
     try clear hcz29_6
     try clear hcz29_7
     try clear hcz29_8
     try clear hcz29_9
     try clear hcz31_0
     try clear hcz31_1
     try clear hcz31_10
     try clear hcz31_2
     try clear hcz31_3
     try clear hcz31_4
     try clear hcz31_5
     try clear hcz31_6
     try clear hcz31_7
     try clear hcz31_8
     try clear hcz31_9
     try clear hcz32_0
     try clear hcz32_1
     try clear hcz32_10
     try clear hcz32_2
     try clear hcz32_3
     try clear hcz32_4
     try clear hcz32_5
     try clear hcz32_6
     try clear hcz32_7
     try clear hcz32_8
     try clear hcz32_9
     try clear hcz33_0
     try clear hcz33_1
     try clear hcz33_10
     try clear hcz33_2
     try clear hcz33_3
     try clear hcz33_4
     try clear hcz33_5
     try clear hcz33_6
     try clear hcz33_7
     try clear hcz33_8
     try clear hcz33_9
     try clear hcz37_0
     try clear hcz37_1
     try clear hcz37_10
     try clear hcz37_2
     try clear hcz37_3
     try clear hcz37_4
     try clear hcz37_5
     try clear hcz37_6
     try clear hcz37_7
     try clear hcz37_8
     try clear hcz37_9
     try clear hcz38_0
     try clear hcz38_1
     try clear hcz38_10
     try clear hcz38_2
     try clear hcz38_3
     try clear hcz38_4
     try clear hcz38_5
     try clear hcz38_6
     try clear hcz38_7
     try clear hcz38_8
     try clear hcz38_9
     try clear hcz39_0
     try clear hcz39_1
     try clear hcz39_10
     try clear hcz39_2
     try clear hcz39_3
     try clear hcz39_4
     try clear hcz39_5
     try clear hcz39_6
     try clear hcz39_7
     try clear hcz39_8
     try clear hcz39_9
     try clear hcz41_0
     try clear hcz41_1
     try clear hcz41_10
     try clear hcz41_2
     try clear hcz41_3
     try clear hcz41_4
     try clear hcz41_5
     try clear hcz41_6
     try clear hcz41_7
     try clear hcz41_8
     try clear hcz41_9
     try clear hfz19_0
     try clear hfz19_1
     try clear hfz19_10
     try clear hfz19_2
     try clear hfz19_3
     try clear hfz19_4
     try clear hfz19_5
     try clear hfz19_6
     try clear hfz19_7
     try clear hfz19_8
     try clear hfz19_9
     try clear hfz20_0
     try clear hfz20_1
     try clear hfz20_10
     try clear hfz20_2
     try clear hfz20_3
     try clear hfz20_4
     try clear hfz20_5
     try clear hfz20_6
     try clear hfz20_7
     try clear hfz20_8
     try clear hfz20_9
     try clear hfz21_0
     try clear hfz21_1
     try clear hfz21_10
     try clear hfz21_2
     try clear hfz21_3
     try clear hfz21_4
     try clear hfz21_5
     try clear hfz21_6
     try clear hfz21_7
     try clear hfz21_8
     try clear hfz21_9
     try clear hfz23_0
     try clear hfz23_1
     try clear hfz23_10
     try clear hfz23_2
     try clear hfz23_3
     try clear hfz23_4
     try clear hfz23_5
     try clear hfz23_6
     try clear hfz23_7
     try clear hfz23_8
     try clear hfz23_9
     try clear hfz24_0
     try clear hfz24_1
     try clear hfz24_10
     try clear hfz24_2
     try clear hfz24_3
     try clear hfz24_4
     try clear hfz24_5
     try clear hfz24_6
     try clear hfz24_7
     try clear hfz24_8
     try clear hfz24_9
     try clear hfz28_0
     try clear hfz28_1
     try clear hfz28_10
     try clear hfz28_2
     try clear hfz28_3
     try clear hfz28_4
     try clear hfz28_5
     try clear hfz28_6
     try clear hfz28_7
     try clear hfz28_8
     try clear hfz28_9
     try clear hfz29_0
     try clear hfz29_1
     try clear hfz29_10
     try clear hfz29_2
     try clear hfz29_3
     try clear hfz29_4
     try clear hfz29_5
     try clear hfz29_6
     try clear hfz29_7
     try clear hfz29_8
     try clear hfz29_9
     try clear hfz31_0
     try clear hfz31_1
     try clear hfz31_10
     try clear hfz31_2
     try clear hfz31_3
     try clear hfz31_4
     try clear hfz31_5
     try clear hfz31_6
     try clear hfz31_7
     try clear hfz31_8
     try clear hfz31_9
     try clear hfz32_0
     try clear hfz32_1
     try clear hfz32_10
     try clear hfz32_2
     try clear hfz32_3
     try clear hfz32_4
     try clear hfz32_5
     try clear hfz32_6
     try clear hfz32_7
     try clear hfz32_8
     try clear hfz32_9
     try clear hfz33_0
     try clear hfz33_1
     try clear hfz33_10
     try clear hfz33_2
     try clear hfz33_3
     try clear hfz33_4
     try clear hfz33_5
     try clear hfz33_6
     try clear hfz33_7
     try clear hfz33_8
     try clear hfz33_9
     try clear hfz37_0
     try clear hfz37_1
     try clear hfz37_10
     try clear hfz37_2
     try clear hfz37_3
     try clear hfz37_4
     try clear hfz37_5
     try clear hfz37_6
     try clear hfz37_7
     try clear hfz37_8
     try clear hfz37_9
     try clear hfz38_0
     try clear hfz38_1
     try clear hfz38_10
     try clear hfz38_2
     try clear hfz38_3
     try clear hfz38_4
     try clear hfz38_5
     try clear hfz38_6
     try clear hfz38_7
     try clear hfz38_8
     try clear hfz38_9
     try clear hfz39_0
     try clear hfz39_1
     try clear hfz39_10
     try clear hfz39_2
     try clear hfz39_3
     try clear hfz39_4
     try clear hfz39_5
     try clear hfz39_6
     try clear hfz39_7
     try clear hfz39_8
     try clear hfz39_9
     try clear hfz41_0
     try clear hfz41_1
     try clear hfz41_10
     try clear hfz41_2
     try clear hfz41_3
     try clear hfz41_4
     try clear hfz41_5
     try clear hfz41_6
     try clear hfz41_7
     try clear hfz41_8
     try clear hfz41_9
     try clear hfz4_10
     try clear hfz4_2
     try clear hfz4_3
     try clear hfz4_4
     try clear hfz4_5
     try clear hfz4_6
     try clear hfz4_7
     try clear hfz4_8
     try clear hfz4_9
     try clear hfz6_0
     try clear hfz6_1
     try clear hfz6_10
     try clear hfz6_2
     try clear hfz6_3
     try clear hfz6_4
     try clear hfz6_5
     try clear hfz6_6
     try clear hfz6_7
     try clear hfz6_8
     try clear hfz6_9
     try clear hfz8_0
     try clear hfz8_1
     try clear hfz8_10
     try clear hfz8_2
     try clear hfz8_3
     try clear hfz8_4
     try clear hfz8_5
     try clear hfz8_6
     try clear hfz8_7
     try clear hfz8_8
     try clear hfz8_9
     obtain ⟨kq, x70_12, rfl, HA, HJ12, BK206, HB, rfl⟩ := hcut
     cases kq with
     | zero => exact absurd HA.out (by simp [towroperef26_Check.j1])
     | succ kj12 =>
      have H := HA.out
      clear HA
      simp only [towroperef26_Check.j1] at H
      by_cases c42 : x70_12 = true
      ·
       subst c42
       have H1 : (some 260) = some r := by rw [if_pos rfl] at H; exact H
       clear H
       have H := H1
       clear H1
       obtain rfl := Option.some.inj H
       go_wp2
       go_ret
       exact ⟨by first | rfl | (simp [errW_none, errW_some] <;> rfl) | (simp [*, errW_none, errW_some] <;> rfl), by repeat (first | (with_reducible first | exact HB.out | apply below_alloc | apply pw_below_drewN | apply below_drew1 | refine below_set ?_ GE206.out) | exact HB.out)⟩
      ·
       replace c42 := Bool.eq_false_iff.mpr c42
       subst c42
       have H1 : (if a0_0 = 7 then (if a0_5 < 0 then (towroperef26_Check.j2 kj12 true a0_0 a0_1 a0_2 a0_3 a0_4 a0_5 a0_6 a0_7 a0_8 a0_9 l0_10) else (if a0_5 > 65536 then (towroperef26_Check.j2 kj12 true a0_0 a0_1 a0_2 a0_3 a0_4 a0_5 a0_6 a0_7 a0_8 a0_9 l0_10) else (if a0_5 = 0 then (towroperef26_Check.j2 kj12 (!((Int.tmod (wrap64 (Int.tdiv (wrap64 (a0_1)) 8)) 2) == 1)) a0_0 a0_1 a0_2 a0_3 a0_4 a0_5 a0_6 a0_7 a0_8 a0_9 l0_10) else (towroperef26_Check.j2 kj12 false a0_0 a0_1 a0_2 a0_3 a0_4 a0_5 a0_6 a0_7 a0_8 a0_9 l0_10)))) else (towroperef26_Check.j2 kj12 false a0_0 a0_1 a0_2 a0_3 a0_4 a0_5 a0_6 a0_7 a0_8 a0_9 l0_10)) = some r := by rw [if_neg (show ¬ (false = true) by decide)] at H; exact H
       clear H
       have H := H1
       clear H1
       have HC43 := Aside0.mk H
       clear H
       go_upto_region 7 with (fail)
       go_cut [92, 4, 5, 6, 7, 8] (fun v92 v4 v5 v6 v7 v8 wc => ∃ (kq : Nat) (x92_42 : Bool), v92 = .bool x92_42 ∧ Aside0 (towroperef26_Check.j2 kq x92_42 a0_0 a0_1 a0_2 a0_3 a0_4 a0_5 a0_6 a0_7 a0_8 a0_9 l0_10 = some r) ∧ Aside0 (kq ≤ kj12) ∧ Aside0 (wc.heap[gb206]? = some (.cells #[.int .u8 a0_0, .int .u8 a0_1, .int .i64 a0_2, .int .u32 a0_3, .int .u16 a0_4, .int .i64 a0_5, .int .i64 a0_6, .int .i64 a0_7, .int .u64 a0_8, .int .u64 a0_9, (.slice A0_10 l0_10.length c0_10)] 50 (0, 0))) ∧ Aside0 (Below w.heap.size w wc))
       case first =>
        have H := HC43.out
        clear HC43
        by_cases c44 : a0_0 = 7
        ·
         rw [if_pos c44] at H
         have c44b0 : (a0_0 == 7) = true := beq_iff_eq.mpr c44
         have c44b1 : (a0_0 != 7) = false := bne_eq_false_iff_eq.mpr c44
         clear c44
         (first | rw [c44b0] | (simp only [i64_w, i32_w]; rw [c44b0]) | skip)
         by_cases c45 : a0_5 < 0
         ·
          rw [if_pos c45] at H
          have c45b0 : decide (a0_5 < 0) = true := decide_eq_true c45
          clear c45
          have H' := Aside0.mk H
          clear H
          have hcz46_0 : wc.cell? ⟨gb206, 0, none⟩ = some (.int .u8 a0_0) := (blk_cell BK206.out 0).trans rfl
          have hcz46_1 : wc.cell? ⟨gb206, 1, none⟩ = some (.int .u8 a0_1) := (blk_cell BK206.out 1).trans rfl
          have hcz46_2 : wc.cell? ⟨gb206, 2, none⟩ = some (.int .i64 a0_2) := (blk_cell BK206.out 2).trans rfl
          have hcz46_3 : wc.cell? ⟨gb206, 3, none⟩ = some (.int .u32 a0_3) := (blk_cell BK206.out 3).trans rfl
          have hcz46_4 : wc.cell? ⟨gb206, 4, none⟩ = some (.int .u16 a0_4) := (blk_cell BK206.out 4).trans rfl
          have hcz46_5 : wc.cell? ⟨gb206, 5, none⟩ = some (.int .i64 a0_5) := (blk_cell BK206.out 5).trans rfl
          have hcz46_6 : wc.cell? ⟨gb206, 6, none⟩ = some (.int .i64 a0_6) := (blk_cell BK206.out 6).trans rfl
          have hcz46_7 : wc.cell? ⟨gb206, 7, none⟩ = some (.int .i64 a0_7) := (blk_cell BK206.out 7).trans rfl
          have hcz46_8 : wc.cell? ⟨gb206, 8, none⟩ = some (.int .u64 a0_8) := (blk_cell BK206.out 8).trans rfl
          have hcz46_9 : wc.cell? ⟨gb206, 9, none⟩ = some (.int .u64 a0_9) := (blk_cell BK206.out 9).trans rfl
          have hcz46_10 : wc.cell? ⟨gb206, 10, none⟩ = some (.slice A0_10 l0_10.length c0_10) := (blk_cell BK206.out 10).trans rfl
          have hfz46_0 := blk_frozen BK206.out 0
          have hfz46_1 := blk_frozen BK206.out 1
          have hfz46_2 := blk_frozen BK206.out 2
          have hfz46_3 := blk_frozen BK206.out 3
          have hfz46_4 := blk_frozen BK206.out 4
          have hfz46_5 := blk_frozen BK206.out 5
          have hfz46_6 := blk_frozen BK206.out 6
          have hfz46_7 := blk_frozen BK206.out 7
          have hfz46_8 := blk_frozen BK206.out 8
          have hfz46_9 := blk_frozen BK206.out 9
          have hfz46_10 := blk_frozen BK206.out 10
          go_wp2
          go_meet
          case rel => exact ⟨_, (true), (by first | rfl | (simp; done) | (simp [*]; done)), H', ⟨by have := HJ1.out; have := HJ12.out; first | omega | exact Nat.le_refl _⟩, ⟨by (with_reducible repeat (first | refine blk_drewN ?_ _ | refine blk_drew ?_ | refine blk_alloc ?_ _)); exact BK206.out⟩, ⟨by repeat (first | (with_reducible first | exact HB.out | apply below_alloc | apply pw_below_drewN | apply below_drew1 | refine below_set ?_ GE206.out) | exact HB.out)⟩⟩
         ·
          rw [if_neg c45] at H
          have c45b0 : decide (a0_5 < 0) = false := decide_eq_false c45
          clear c45
          by_cases c47 : a0_5 > 65536
          ·
           rw [if_pos c47] at H
           have c47b0 : decide (65536 < a0_5) = true := decide_eq_true c47
           clear c47
           have H' := Aside0.mk H
           clear H
           have hcz48_0 : wc.cell? ⟨gb206, 0, none⟩ = some (.int .u8 a0_0) := (blk_cell BK206.out 0).trans rfl
           have hcz48_1 : wc.cell? ⟨gb206, 1, none⟩ = some (.int .u8 a0_1) := (blk_cell BK206.out 1).trans rfl
           have hcz48_2 : wc.cell? ⟨gb206, 2, none⟩ = some (.int .i64 a0_2) := (blk_cell BK206.out 2).trans rfl
           have hcz48_3 : wc.cell? ⟨gb206, 3, none⟩ = some (.int .u32 a0_3) := (blk_cell BK206.out 3).trans rfl
           have hcz48_4 : wc.cell? ⟨gb206, 4, none⟩ = some (.int .u16 a0_4) := (blk_cell BK206.out 4).trans rfl
           have hcz48_5 : wc.cell? ⟨gb206, 5, none⟩ = some (.int .i64 a0_5) := (blk_cell BK206.out 5).trans rfl
           have hcz48_6 : wc.cell? ⟨gb206, 6, none⟩ = some (.int .i64 a0_6) := (blk_cell BK206.out 6).trans rfl
           have hcz48_7 : wc.cell? ⟨gb206, 7, none⟩ = some (.int .i64 a0_7) := (blk_cell BK206.out 7).trans rfl
           have hcz48_8 : wc.cell? ⟨gb206, 8, none⟩ = some (.int .u64 a0_8) := (blk_cell BK206.out 8).trans rfl
           have hcz48_9 : wc.cell? ⟨gb206, 9, none⟩ = some (.int .u64 a0_9) := (blk_cell BK206.out 9).trans rfl
           have hcz48_10 : wc.cell? ⟨gb206, 10, none⟩ = some (.slice A0_10 l0_10.length c0_10) := (blk_cell BK206.out 10).trans rfl
           have hfz48_0 := blk_frozen BK206.out 0
           have hfz48_1 := blk_frozen BK206.out 1
           have hfz48_2 := blk_frozen BK206.out 2
           have hfz48_3 := blk_frozen BK206.out 3
           have hfz48_4 := blk_frozen BK206.out 4
           have hfz48_5 := blk_frozen BK206.out 5
           have hfz48_6 := blk_frozen BK206.out 6
           have hfz48_7 := blk_frozen BK206.out 7
           have hfz48_8 := blk_frozen BK206.out 8
           have hfz48_9 := blk_frozen BK206.out 9
           have hfz48_10 := blk_frozen BK206.out 10
           go_wp2
           go_meet
           case rel => exact ⟨_, (true), (by first | rfl | (simp; done) | (simp [*]; done)), H', ⟨by have := HJ1.out; have := HJ12.out; first | omega | exact Nat.le_refl _⟩, ⟨by (with_reducible repeat (first | refine blk_drewN ?_ _ | refine blk_drew ?_ | refine blk_alloc ?_ _)); exact BK206.out⟩, ⟨by repeat (first | (with_reducible first | exact HB.out | apply below_alloc | apply pw_below_drewN | apply below_drew1 | refine below_set ?_ GE206.out) | exact HB.out)⟩⟩
          ·
           rw [if_neg c47] at H
           have c47b0 : decide (65536 < a0_5) = false := decide_eq_false c47
           clear c47
           by_cases c49 : a0_5 = 0
           ·
            rw [if_pos c49] at H
            have c49b0 : (a0_5 == 0) = true := beq_iff_eq.mpr c49
            have c49b1 : (a0_5 != 0) = false := bne_eq_false_iff_eq.mpr c49
            clear c49
            have H' := Aside0.mk H
            clear H
            have hcz50_0 : wc.cell? ⟨gb206, 0, none⟩ = some (.int .u8 a0_0) := (blk_cell BK206.out 0).trans rfl
            have hcz50_1 : wc.cell? ⟨gb206, 1, none⟩ = some (.int .u8 a0_1) := (blk_cell BK206.out 1).trans rfl
            have hcz50_2 : wc.cell? ⟨gb206, 2, none⟩ = some (.int .i64 a0_2) := (blk_cell BK206.out 2).trans rfl
            have hcz50_3 : wc.cell? ⟨gb206, 3, none⟩ = some (.int .u32 a0_3) := (blk_cell BK206.out 3).trans rfl
            have hcz50_4 : wc.cell? ⟨gb206, 4, none⟩ = some (.int .u16 a0_4) := (blk_cell BK206.out 4).trans rfl
            have hcz50_5 : wc.cell? ⟨gb206, 5, none⟩ = some (.int .i64 a0_5) := (blk_cell BK206.out 5).trans rfl
            have hcz50_6 : wc.cell? ⟨gb206, 6, none⟩ = some (.int .i64 a0_6) := (blk_cell BK206.out 6).trans rfl
            have hcz50_7 : wc.cell? ⟨gb206, 7, none⟩ = some (.int .i64 a0_7) := (blk_cell BK206.out 7).trans rfl
            have hcz50_8 : wc.cell? ⟨gb206, 8, none⟩ = some (.int .u64 a0_8) := (blk_cell BK206.out 8).trans rfl
            have hcz50_9 : wc.cell? ⟨gb206, 9, none⟩ = some (.int .u64 a0_9) := (blk_cell BK206.out 9).trans rfl
            have hcz50_10 : wc.cell? ⟨gb206, 10, none⟩ = some (.slice A0_10 l0_10.length c0_10) := (blk_cell BK206.out 10).trans rfl
            have hfz50_0 := blk_frozen BK206.out 0
            have hfz50_1 := blk_frozen BK206.out 1
            have hfz50_2 := blk_frozen BK206.out 2
            have hfz50_3 := blk_frozen BK206.out 3
            have hfz50_4 := blk_frozen BK206.out 4
            have hfz50_5 := blk_frozen BK206.out 5
            have hfz50_6 := blk_frozen BK206.out 6
            have hfz50_7 := blk_frozen BK206.out 7
            have hfz50_8 := blk_frozen BK206.out 8
            have hfz50_9 := blk_frozen BK206.out 9
            have hfz50_10 := blk_frozen BK206.out 10
            go_wp2
            go_meet
            case rel => exact ⟨_, (!((Int.tmod (wrap64 (Int.tdiv (wrap64 (a0_1)) 8)) 2) == 1)), (by first | rfl | (simp; done) | (simp [*]; done)), H', ⟨by have := HJ1.out; have := HJ12.out; first | omega | exact Nat.le_refl _⟩, ⟨by (with_reducible repeat (first | refine blk_drewN ?_ _ | refine blk_drew ?_ | refine blk_alloc ?_ _)); exact BK206.out⟩, ⟨by repeat (first | (with_reducible first | exact HB.out | apply below_alloc | apply pw_below_drewN | apply below_drew1 | refine below_set ?_ GE206.out) | exact HB.out)⟩⟩
           ·
            rw [if_neg c49] at H
            have c49b0 : (a0_5 == 0) = false := beq_eq_false_iff_ne.mpr c49
            have c49b1 : (a0_5 != 0) = true := bne_iff_ne.mpr c49
            have H' := Aside0.mk H
            clear H
            have hcz51_0 : wc.cell? ⟨gb206, 0, none⟩ = some (.int .u8 a0_0) := (blk_cell BK206.out 0).trans rfl
            have hcz51_1 : wc.cell? ⟨gb206, 1, none⟩ = some (.int .u8 a0_1) := (blk_cell BK206.out 1).trans rfl
            have hcz51_2 : wc.cell? ⟨gb206, 2, none⟩ = some (.int .i64 a0_2) := (blk_cell BK206.out 2).trans rfl
            have hcz51_3 : wc.cell? ⟨gb206, 3, none⟩ = some (.int .u32 a0_3) := (blk_cell BK206.out 3).trans rfl
            have hcz51_4 : wc.cell? ⟨gb206, 4, none⟩ = some (.int .u16 a0_4) := (blk_cell BK206.out 4).trans rfl
            have hcz51_5 : wc.cell? ⟨gb206, 5, none⟩ = some (.int .i64 a0_5) := (blk_cell BK206.out 5).trans rfl
            have hcz51_6 : wc.cell? ⟨gb206, 6, none⟩ = some (.int .i64 a0_6) := (blk_cell BK206.out 6).trans rfl
            have hcz51_7 : wc.cell? ⟨gb206, 7, none⟩ = some (.int .i64 a0_7) := (blk_cell BK206.out 7).trans rfl
            have hcz51_8 : wc.cell? ⟨gb206, 8, none⟩ = some (.int .u64 a0_8) := (blk_cell BK206.out 8).trans rfl
            have hcz51_9 : wc.cell? ⟨gb206, 9, none⟩ = some (.int .u64 a0_9) := (blk_cell BK206.out 9).trans rfl
            have hcz51_10 : wc.cell? ⟨gb206, 10, none⟩ = some (.slice A0_10 l0_10.length c0_10) := (blk_cell BK206.out 10).trans rfl
            have hfz51_0 := blk_frozen BK206.out 0
            have hfz51_1 := blk_frozen BK206.out 1
            have hfz51_2 := blk_frozen BK206.out 2
            have hfz51_3 := blk_frozen BK206.out 3
            have hfz51_4 := blk_frozen BK206.out 4
            have hfz51_5 := blk_frozen BK206.out 5
            have hfz51_6 := blk_frozen BK206.out 6
            have hfz51_7 := blk_frozen BK206.out 7
            have hfz51_8 := blk_frozen BK206.out 8
            have hfz51_9 := blk_frozen BK206.out 9
            have hfz51_10 := blk_frozen BK206.out 10
            go_wp2
            go_meet
            case rel => exact ⟨_, (false), (by first | rfl | (simp; done) | (simp [*]; done)), H', ⟨by have := HJ1.out; have := HJ12.out; first | omega | exact Nat.le_refl _⟩, ⟨by (with_reducible repeat (first | refine blk_drewN ?_ _ | refine blk_drew ?_ | refine blk_alloc ?_ _)); exact BK206.out⟩, ⟨by repeat (first | (with_reducible first | exact HB.out | apply below_alloc | apply pw_below_drewN | apply below_drew1 | refine below_set ?_ GE206.out) | exact HB.out)⟩⟩
        ·
         rw [if_neg c44] at H
         have c44b0 : (a0_0 == 7) = false := beq_eq_false_iff_ne.mpr c44
         have c44b1 : (a0_0 != 7) = true := bne_iff_ne.mpr c44
         (first | rw [c44b0] | (simp only [i64_w, i32_w]; rw [c44b0]) | skip)
         have H' := Aside0.mk H
         clear H
         have hcz52_0 : wc.cell? ⟨gb206, 0, none⟩ = some (.int .u8 a0_0) := (blk_cell BK206.out 0).trans rfl
         have hcz52_1 : wc.cell? ⟨gb206, 1, none⟩ = some (.int .u8 a0_1) := (blk_cell BK206.out 1).trans rfl
         have hcz52_2 : wc.cell? ⟨gb206, 2, none⟩ = some (.int .i64 a0_2) := (blk_cell BK206.out 2).trans rfl
         have hcz52_3 : wc.cell? ⟨gb206, 3, none⟩ = some (.int .u32 a0_3) := (blk_cell BK206.out 3).trans rfl
         have hcz52_4 : wc.cell? ⟨gb206, 4, none⟩ = some (.int .u16 a0_4) := (blk_cell BK206.out 4).trans rfl
         have hcz52_5 : wc.cell? ⟨gb206, 5, none⟩ = some (.int .i64 a0_5) := (blk_cell BK206.out 5).trans rfl
         have hcz52_6 : wc.cell? ⟨gb206, 6, none⟩ = some (.int .i64 a0_6) := (blk_cell BK206.out 6).trans rfl
         have hcz52_7 : wc.cell? ⟨gb206, 7, none⟩ = some (.int .i64 a0_7) := (blk_cell BK206.out 7).trans rfl
         have hcz52_8 : wc.cell? ⟨gb206, 8, none⟩ = some (.int .u64 a0_8) := (blk_cell BK206.out 8).trans rfl
         have hcz52_9 : wc.cell? ⟨gb206, 9, none⟩ = some (.int .u64 a0_9) := (blk_cell BK206.out 9).trans rfl
         have hcz52_10 : wc.cell? ⟨gb206, 10, none⟩ = some (.slice A0_10 l0_10.length c0_10) := (blk_cell BK206.out 10).trans rfl
         have hfz52_0 := blk_frozen BK206.out 0
         have hfz52_1 := blk_frozen BK206.out 1
         have hfz52_2 := blk_frozen BK206.out 2
         have hfz52_3 := blk_frozen BK206.out 3
         have hfz52_4 := blk_frozen BK206.out 4
         have hfz52_5 := blk_frozen BK206.out 5
         have hfz52_6 := blk_frozen BK206.out 6
         have hfz52_7 := blk_frozen BK206.out 7
         have hfz52_8 := blk_frozen BK206.out 8
         have hfz52_9 := blk_frozen BK206.out 9
         have hfz52_10 := blk_frozen BK206.out 10
         go_wp2
         go_meet
         case rel => exact ⟨_, (false), (by first | rfl | (simp; done) | (simp [*]; done)), H', ⟨by have := HJ1.out; have := HJ12.out; first | omega | exact Nat.le_refl _⟩, ⟨by (with_reducible repeat (first | refine blk_drewN ?_ _ | refine blk_drew ?_ | refine blk_alloc ?_ _)); exact BK206.out⟩, ⟨by repeat (first | (with_reducible first | exact HB.out | apply below_alloc | apply pw_below_drewN | apply below_drew1 | refine below_set ?_ GE206.out) | exact HB.out)⟩⟩
       case rest =>
        clear HC43
        try clear c1
        try clear c2
        try clear p2
        try clear c3
        try clear c4
        try clear p6
        try clear c12
        try clear c14
        try clear c14b0
        try clear c14b1
        try clear c14b2
        try clear c15
        try clear c15b0
        try clear c15b1
        try clear c16
        try clear c16b0
        try clear c16b1
        try clear c16b2
        try clear c17
        try clear c17b0
        try clear c17b1
        try clear c18
        try clear c18b0
        try clear c18b1
        try clear c18b2
        try clear c22
        try clear c22b0
        try clear c22b1
        try clear c22b2
        try clear c25
        try clear c25b0
        try clear c25b1
        try clear c26
        try clear c26b0
        try clear c26b1
        try clear c26b2
        try clear c27
        try clear c27b0
        try clear c27b1
        try clear c27b2
        try clear c30
        try clear c30b0
        try clear c30b1
        try clear c30b2
        try clear c34
        try clear c34b0
        try clear c34b1
        try clear c34b2
        try clear c35
        try clear c35b0
        try clear c35b1
        try clear c36
        try clear c36b0
        try clear c36b1
        try clear c36b2
        try clear c40
        try clear c40b0
        try clear c40b1
        try clear c40b2
        try clear c42
        try clear c44
        try clear c44b0
        try clear c44b1
        try clear c45
        try clear c45b0
        try clear c47
        try clear c47b0
        try clear c49
        try clear c49b0
        try clear c49b1
        try clear hcz19_0
        try clear hcz19_1
        try clear hcz19_10
        try clear hcz19_2
        try clear hcz19_3
        try clear hcz19_4
        try clear hcz19_5
        try clear hcz19_6
        try clear hcz19_7
        try clear hcz19_8
        try clear hcz19_9
        try clear hcz20_0
        try clear hcz20_1
        try clear hcz20_10
        try clear hcz20_2
        try clear hcz20_3
        try clear hcz20_4
        try clear hcz20_5
        try clear hcz20_6
        try clear hcz20_7
        try clear hcz20_8
        try clear hcz20_9
        try clear hcz21_0
        try clear hcz21_1
        try clear hcz21_10
        try clear hcz21_2
        try clear hcz21_3
        try clear hcz21_4
        try clear hcz21_5
        try clear hcz21_6
        try clear hcz21_7
        try clear hcz21_8
        try clear hcz21_9
        try clear hcz23_0
        try clear hcz23_1
        try clear hcz23_10
        try clear hcz23_2
        try clear hcz23_3
        try clear hcz23_4
        try clear hcz23_5
        try clear hcz23_6
        try clear hcz23_7
        try clear hcz23_8
        try clear hcz23_9
        try clear hcz24_0
        try clear hcz24_1
        try clear hcz24_10
        try clear hcz24_2
        try clear hcz24_3
        try clear hcz24_4
        try clear hcz24_5
        try clear hcz24_6
        try clear hcz24_7
        try clear hcz24_8
        try clear hcz24_9
        try clear hcz28_0
        try clear hcz28_1
        try clear hcz28_10
        try clear hcz28_2
        try clear hcz28_3
        try clear hcz28_4
        try clear hcz28_5
        try clear hcz28_6
        try clear hcz28_7
        try clear hcz28_8
        try clear hcz28_9
        try clear hcz29_0
        try clear hcz29_1
        try clear hcz29_10
        try clear hcz29_2
        try clear hcz29_3
        try clear hcz29_4
        try clear hcz29_5
        try clear hcz29_6
        try clear hcz29_7
        try clear hcz29_8
        try clear hcz29_9
        try clear hcz31_0
        try clear hcz31_1
        try clear hcz31_10
        try clear hcz31_2
        try clear hcz31_3
        try clear hcz31_4
        try clear hcz31_5
        try clear hcz31_6
        try clear hcz31_7
        try clear hcz31_8
        try clear hcz31_9
        try clear hcz32_0
        try clear hcz32_1
        try clear hcz32_10
        try clear hcz32_2
        try clear hcz32_3
        try clear hcz32_4
        try clear hcz32_5
        try clear hcz32_6
        try clear hcz32_7
        try clear hcz32_8
        try clear hcz32_9
        try clear hcz33_0
        try clear hcz33_1
        try clear hcz33_10
        try clear hcz33_2
        try clear hcz33_3
        try clear hcz33_4
        try clear hcz33_5
        try clear hcz33_6
        try clear hcz33_7
        try clear hcz33_8
        try clear hcz33_9
        try clear hcz37_0
        try clear hcz37_1
        try clear hcz37_10
        try clear hcz37_2
        try clear hcz37_3
        try clear hcz37_4
        try clear hcz37_5
        try clear hcz37_6
        try clear hcz37_7
        try clear hcz37_8
        try clear hcz37_9
        try clear hcz38_0
        try clear hcz38_1
        try clear hcz38_10
        try clear hcz38_2
        try clear hcz38_3
        try clear hcz38_4
        try clear hcz38_5
        try clear hcz38_6
        try clear hcz38_7
        try clear hcz38_8
        try clear hcz38_9
        try clear hcz39_0
        try clear hcz39_1
        try clear hcz39_10
        try clear hcz39_2
        try clear hcz39_3
        try clear hcz39_4
        try clear hcz39_5
        try clear hcz39_6
        try clear hcz39_7
        try clear hcz39_8
        try clear hcz39_9
        try clear hcz41_0
        try clear hcz41_1
        try clear hcz41_10
        try clear hcz41_2
        try clear hcz41_3
        try clear hcz41_4
        try clear hcz41_5
        try clear hcz41_6
        try clear hcz41_7
        try clear hcz41_8
        try clear hcz41_9
        try clear hcz46_0
        try clear hcz46_1
        try clear hcz46_10
        try clear hcz46_2
        try clear hcz46_3
        try clear hcz46_4
        try clear hcz46_5
        try clear hcz46_6
        try clear hcz46_7
        try clear hcz46_8
        try clear hcz46_9
        try clear hcz48_0
        try clear hcz48_1
        try clear hcz48_10
        try clear hcz48_2
        try clear hcz48_3
        try clear hcz48_4
        try clear hcz48_5
        try clear hcz48_6
        try clear hcz48_7
        try clear hcz48_8
        try clear hcz48_9
        try clear hcz50_0
        try clear hcz50_1
        try clear hcz50_10
        try clear hcz50_2
        try clear hcz50_3
        try clear hcz50_4
        try clear hcz50_5
        try clear hcz50_6
        try clear hcz50_7
        try clear hcz50_8
        try clear hcz50_9
        try clear hcz51_0
        try clear hcz51_1
        try clear hcz51_10
        try clear hcz51_2
        try clear hcz51_3
        try clear hcz51_4
        try clear hcz51_5
        try clear hcz51_6
        try clear hcz51_7
        try clear hcz51_8
        try clear hcz51_9
        try clear hcz52_0
        try clear hcz52_1
        try clear hcz52_10
        try clear hcz52_2
        try clear hcz52_3
        try clear hcz52_4
        try clear hcz52_5
        try clear hcz52_6
        try clear hcz52_7
        try clear hcz52_8
        try clear hcz52_9
        try clear hfz19_0
        try clear hfz19_1
        try clear hfz19_10
        try clear hfz19_2
        try clear hfz19_3
        try clear hfz19_4
        try clear hfz19_5
        try clear hfz19_6
        try clear hfz19_7
        try clear hfz19_8
        try clear hfz19_9
        try clear hfz20_0
        try clear hfz20_1
        try clear hfz20_10
        try clear hfz20_2
        try clear hfz20_3
        try clear hfz20_4
        try clear hfz20_5
        try clear hfz20_6
        try clear hfz20_7
        try clear hfz20_8
        try clear hfz20_9
        try clear hfz21_0
        try clear hfz21_1
        try clear hfz21_10
        try clear hfz21_2
        try clear hfz21_3
        try clear hfz21_4
        try clear hfz21_5
        try clear hfz21_6
        try clear hfz21_7
        try clear hfz21_8
        try clear hfz21_9
        try clear hfz23_0
        try clear hfz23_1
        try clear hfz23_10
        try clear hfz23_2
        try clear hfz23_3
        try clear hfz23_4
        try clear hfz23_5
        try clear hfz23_6
        try clear hfz23_7
        try clear hfz23_8
        try clear hfz23_9
        try clear hfz24_0
        try clear hfz24_1
        try clear hfz24_10
        try clear hfz24_2
        try clear hfz24_3
        try clear hfz24_4
        try clear hfz24_5
        try clear hfz24_6
        try clear hfz24_7
        try clear hfz24_8
        try clear hfz24_9
        try clear hfz28_0
        try clear hfz28_1
        try clear hfz28_10
        try clear hfz28_2
        try clear hfz28_3
        try clear hfz28_4
        try clear hfz28_5
        try clear hfz28_6
        try clear hfz28_7
        try clear hfz28_8
        try clear hfz28_9
        try clear hfz29_0
        try clear hfz29_1
        try clear hfz29_10
        try clear hfz29_2
        try clear hfz29_3
        try clear hfz29_4
        try clear hfz29_5
        try clear hfz29_6
        try clear hfz29_7
        try clear hfz29_8
        try clear hfz29_9
        try clear hfz31_0
        try clear hfz31_1
        try clear hfz31_10
        try clear hfz31_2
        try clear hfz31_3
        try clear hfz31_4
        try clear hfz31_5
        try clear hfz31_6
        try clear hfz31_7
        try clear hfz31_8
        try clear hfz31_9
        try clear hfz32_0
        try clear hfz32_1
        try clear hfz32_10
        try clear hfz32_2
        try clear hfz32_3
        try clear hfz32_4
        try clear hfz32_5
        try clear hfz32_6
        try clear hfz32_7
        try clear hfz32_8
        try clear hfz32_9
        try clear hfz33_0
        try clear hfz33_1
        try clear hfz33_10
        try clear hfz33_2
        try clear hfz33_3
        try clear hfz33_4
        try clear hfz33_5
        try clear hfz33_6
        try clear hfz33_7
        try clear hfz33_8
        try clear hfz33_9
        try clear hfz37_0
        try clear hfz37_1
        try clear hfz37_10
        try clear hfz37_2
        try clear hfz37_3
        try clear hfz37_4
        try clear hfz37_5
        try clear hfz37_6
        try clear hfz37_7
        try clear hfz37_8
        try clear hfz37_9
        try clear hfz38_0
        try clear hfz38_1
        try clear hfz38_10
        try clear hfz38_2
        try clear hfz38_3
        try clear hfz38_4
        try clear hfz38_5
        try clear hfz38_6
        try clear hfz38_7
        try clear hfz38_8
        try clear hfz38_9
        try clear hfz39_0
        try clear hfz39_1
        try clear hfz39_10
        try clear hfz39_2
        try clear hfz39_3
        try clear hfz39_4
        try clear hfz39_5
        try clear hfz39_6
        try clear hfz39_7
        try clear hfz39_8
        try clear hfz39_9
        try clear hfz41_0
        try clear hfz41_1
        try clear hfz41_10
        try clear hfz41_2
        try clear hfz41_3
        try clear hfz41_4
        try clear hfz41_5
        try clear hfz41_6
        try clear hfz41_7
        try clear hfz41_8
        try clear hfz41_9
        try clear hfz46_0
        try clear hfz46_1
        try clear hfz46_10
        try clear hfz46_2
        try clear hfz46_3
        try clear hfz46_4
        try clear hfz46_5
        try clear hfz46_6
        try clear hfz46_7
        try clear hfz46_8
        try clear hfz46_9
        try clear hfz48_0
        try clear hfz48_1
        try clear hfz48_10
        try clear hfz48_2
        try clear hfz48_3
        try clear hfz48_4
        try clear hfz48_5
        try clear hfz48_6
        try clear hfz48_7
        try clear hfz48_8
        try clear hfz48_9
        try clear hfz4_10
        try clear hfz4_2
        try clear hfz4_3
        try clear hfz4_4
        try clear hfz4_5
        try clear hfz4_6
        try clear hfz4_7
        try clear hfz4_8
        try clear hfz4_9
        try clear hfz50_0
        try clear hfz50_1
        try clear hfz50_10
        try clear hfz50_2
        try clear hfz50_3
        try clear hfz50_4
        try clear hfz50_5
        try clear hfz50_6
        try clear hfz50_7
        try clear hfz50_8
        try clear hfz50_9
        try clear hfz51_0
        try clear hfz51_1
        try clear hfz51_10
        try clear hfz51_2
        try clear hfz51_3
        try clear hfz51_4
        try clear hfz51_5
        try clear hfz51_6
        try clear hfz51_7
        try clear hfz51_8
        try clear hfz51_9
        try clear hfz52_0
        try clear hfz52_1
        try clear hfz52_10
        try clear hfz52_2
        try clear hfz52_3
        try clear hfz52_4
        try clear hfz52_5
        try clear hfz52_6
        try clear hfz52_7
        try clear hfz52_8
        try clear hfz52_9
        try clear hfz6_0
        try clear hfz6_1
        try clear hfz6_10
        try clear hfz6_2
        try clear hfz6_3
        try clear hfz6_4
        try clear hfz6_5
        try clear hfz6_6
        try clear hfz6_7
        try clear hfz6_8
        try clear hfz6_9
        try clear hfz8_0
        try clear hfz8_1
        try clear hfz8_10
        try clear hfz8_2
        try clear hfz8_3
        try clear hfz8_4
        try clear hfz8_5
        try clear hfz8_6
        try clear hfz8_7
        try clear hfz8_8
        try clear hfz8_9
        try clear p2
        try clear p6
        obtain ⟨kq, x92_42, rfl, HA, HJ42, BK206, HB⟩ := hcut
        cases kq with
        | zero => exact absurd HA.out (by simp [towroperef26_Check.j2])
        | succ kj42 =>
         have H := HA.out
         clear HA
         simp only [towroperef26_Check.j2] at H
         by_cases c53 : x92_42 = true
         ·
          subst c53
          have H1 : (some 260) = some r := by rw [if_pos rfl] at H; exact H
          clear H
          have H := H1
          clear H1
          obtain rfl := Option.some.inj H
          go_wp2
          go_ret
          exact ⟨by first | rfl | (simp [errW_none, errW_some] <;> rfl) | (simp [*, errW_none, errW_some] <;> rfl), by repeat (first | (with_reducible first | exact HB.out | apply below_alloc | apply pw_below_drewN | apply below_drew1 | refine below_set ?_ GE206.out) | exact HB.out)⟩
         ·
          replace c53 := Bool.eq_false_iff.mpr c53
          subst c53
          have H1 : (if a0_0 = 6 then (if (l0_10.length : Int) > 65536 then (towroperef26_Check.j3 kj42 true a0_0 a0_1 a0_2 a0_3 a0_4 a0_5 a0_6 a0_7 a0_8 a0_9 l0_10) else (towroperef26_Check.j3 kj42 false a0_0 a0_1 a0_2 a0_3 a0_4 a0_5 a0_6 a0_7 a0_8 a0_9 l0_10)) else (towroperef26_Check.j3 kj42 (decide ((l0_10.length : Int) > 0)) a0_0 a0_1 a0_2 a0_3 a0_4 a0_5 a0_6 a0_7 a0_8 a0_9 l0_10)) = some r := by rw [if_neg (show ¬ (false = true) by decide)] at H; exact H
          clear H
          have H := H1
          clear H1
          have HC54 := Aside0.mk H
          clear H
          go_upto_region 9 with (fail)
          go_cut [112, 4, 5, 6, 7, 8] (fun v112 v4 v5 v6 v7 v8 wc => ∃ (kq : Nat) (x112_53 : Bool), v112 = .bool x112_53 ∧ Aside0 (towroperef26_Check.j3 kq x112_53 a0_0 a0_1 a0_2 a0_3 a0_4 a0_5 a0_6 a0_7 a0_8 a0_9 l0_10 = some r) ∧ Aside0 (kq ≤ kj42) ∧ Aside0 (wc.heap[gb206]? = some (.cells #[.int .u8 a0_0, .int .u8 a0_1, .int .i64 a0_2, .int .u32 a0_3, .int .u16 a0_4, .int .i64 a0_5, .int .i64 a0_6, .int .i64 a0_7, .int .u64 a0_8, .int .u64 a0_9, (.slice A0_10 l0_10.length c0_10)] 50 (0, 0))) ∧ Aside0 (Below w.heap.size w wc))
          case first =>
           have H := HC54.out
           clear HC54
           by_cases c55 : a0_0 = 6
           ·
            rw [if_pos c55] at H
            have c55b0 : (a0_0 == 6) = true := beq_iff_eq.mpr c55
            have c55b1 : (a0_0 != 6) = false := bne_eq_false_iff_eq.mpr c55
            clear c55
            (first | rw [c55b0] | (simp only [i64_w, i32_w]; rw [c55b0]) | skip)
            by_cases c56 : (l0_10.length : Int) > 65536
            ·
             rw [if_pos c56] at H
             have c56b0 : decide (65536 < (l0_10.length : Int)) = true := decide_eq_true c56
             have c56b1 : decide (65536 < l0_10.length) = true := decide_eq_true (by omega)
             clear c56
             have H' := Aside0.mk H
             clear H
             have hcz57_0 : wc.cell? ⟨gb206, 0, none⟩ = some (.int .u8 a0_0) := (blk_cell BK206.out 0).trans rfl
             have hcz57_1 : wc.cell? ⟨gb206, 1, none⟩ = some (.int .u8 a0_1) := (blk_cell BK206.out 1).trans rfl
             have hcz57_2 : wc.cell? ⟨gb206, 2, none⟩ = some (.int .i64 a0_2) := (blk_cell BK206.out 2).trans rfl
             have hcz57_3 : wc.cell? ⟨gb206, 3, none⟩ = some (.int .u32 a0_3) := (blk_cell BK206.out 3).trans rfl
             have hcz57_4 : wc.cell? ⟨gb206, 4, none⟩ = some (.int .u16 a0_4) := (blk_cell BK206.out 4).trans rfl
             have hcz57_5 : wc.cell? ⟨gb206, 5, none⟩ = some (.int .i64 a0_5) := (blk_cell BK206.out 5).trans rfl
             have hcz57_6 : wc.cell? ⟨gb206, 6, none⟩ = some (.int .i64 a0_6) := (blk_cell BK206.out 6).trans rfl
             have hcz57_7 : wc.cell? ⟨gb206, 7, none⟩ = some (.int .i64 a0_7) := (blk_cell BK206.out 7).trans rfl
             have hcz57_8 : wc.cell? ⟨gb206, 8, none⟩ = some (.int .u64 a0_8) := (blk_cell BK206.out 8).trans rfl
             have hcz57_9 : wc.cell? ⟨gb206, 9, none⟩ = some (.int .u64 a0_9) := (blk_cell BK206.out 9).trans rfl
             have hcz57_10 : wc.cell? ⟨gb206, 10, none⟩ = some (.slice A0_10 l0_10.length c0_10) := (blk_cell BK206.out 10).trans rfl
             have hfz57_0 := blk_frozen BK206.out 0
             have hfz57_1 := blk_frozen BK206.out 1
             have hfz57_2 := blk_frozen BK206.out 2
             have hfz57_3 := blk_frozen BK206.out 3
             have hfz57_4 := blk_frozen BK206.out 4
             have hfz57_5 := blk_frozen BK206.out 5
             have hfz57_6 := blk_frozen BK206.out 6
             have hfz57_7 := blk_frozen BK206.out 7
             have hfz57_8 := blk_frozen BK206.out 8
             have hfz57_9 := blk_frozen BK206.out 9
             have hfz57_10 := blk_frozen BK206.out 10
             go_wp2
             go_meet
             case rel => exact ⟨_, (true), (by first | rfl | (simp; done) | (simp [*]; done)), H', ⟨by have := HJ1.out; have := HJ12.out; have := HJ42.out; first | omega | exact Nat.le_refl _⟩, ⟨by (with_reducible repeat (first | refine blk_drewN ?_ _ | refine blk_drew ?_ | refine blk_alloc ?_ _)); exact BK206.out⟩, ⟨by repeat (first | (with_reducible first | exact HB.out | apply below_alloc | apply pw_below_drewN | apply below_drew1 | refine below_set ?_ GE206.out) | exact HB.out)⟩⟩
            ·
             rw [if_neg c56] at H
             have c56b0 : decide (65536 < (l0_10.length : Int)) = false := decide_eq_false c56
             have c56b1 : decide (65536 < l0_10.length) = false := decide_eq_false (by omega)
             clear c56
             have H' := Aside0.mk H
             clear H
             have hcz58_0 : wc.cell? ⟨gb206, 0, none⟩ = some (.int .u8 a0_0) := (blk_cell BK206.out 0).trans rfl
             have hcz58_1 : wc.cell? ⟨gb206, 1, none⟩ = some (.int .u8 a0_1) := (blk_cell BK206.out 1).trans rfl
             have hcz58_2 : wc.cell? ⟨gb206, 2, none⟩ = some (.int .i64 a0_2) := (blk_cell BK206.out 2).trans rfl
             have hcz58_3 : wc.cell? ⟨gb206, 3, none⟩ = some (.int .u32 a0_3) := (blk_cell BK206.out 3).trans rfl
             have hcz58_4 : wc.cell? ⟨gb206, 4, none⟩ = some (.int .u16 a0_4) := (blk_cell BK206.out 4).trans rfl
             have hcz58_5 : wc.cell? ⟨gb206, 5, none⟩ = some (.int .i64 a0_5) := (blk_cell BK206.out 5).trans rfl
             have hcz58_6 : wc.cell? ⟨gb206, 6, none⟩ = some (.int .i64 a0_6) := (blk_cell BK206.out 6).trans rfl
             have hcz58_7 : wc.cell? ⟨gb206, 7, none⟩ = some (.int .i64 a0_7) := (blk_cell BK206.out 7).trans rfl
             have hcz58_8 : wc.cell? ⟨gb206, 8, none⟩ = some (.int .u64 a0_8) := (blk_cell BK206.out 8).trans rfl
             have hcz58_9 : wc.cell? ⟨gb206, 9, none⟩ = some (.int .u64 a0_9) := (blk_cell BK206.out 9).trans rfl
             have hcz58_10 : wc.cell? ⟨gb206, 10, none⟩ = some (.slice A0_10 l0_10.length c0_10) := (blk_cell BK206.out 10).trans rfl
             have hfz58_0 := blk_frozen BK206.out 0
             have hfz58_1 := blk_frozen BK206.out 1
             have hfz58_2 := blk_frozen BK206.out 2
             have hfz58_3 := blk_frozen BK206.out 3
             have hfz58_4 := blk_frozen BK206.out 4
             have hfz58_5 := blk_frozen BK206.out 5
             have hfz58_6 := blk_frozen BK206.out 6
             have hfz58_7 := blk_frozen BK206.out 7
             have hfz58_8 := blk_frozen BK206.out 8
             have hfz58_9 := blk_frozen BK206.out 9
             have hfz58_10 := blk_frozen BK206.out 10
             go_wp2
             go_meet
             case rel => exact ⟨_, (false), (by first | rfl | (simp; done) | (simp [*]; done)), H', ⟨by have := HJ1.out; have := HJ12.out; have := HJ42.out; first | omega | exact Nat.le_refl _⟩, ⟨by (with_reducible repeat (first | refine blk_drewN ?_ _ | refine blk_drew ?_ | refine blk_alloc ?_ _)); exact BK206.out⟩, ⟨by repeat (first | (with_reducible first | exact HB.out | apply below_alloc | apply pw_below_drewN | apply below_drew1 | refine below_set ?_ GE206.out) | exact HB.out)⟩⟩
           ·
            rw [if_neg c55] at H
            have c55b0 : (a0_0 == 6) = false := beq_eq_false_iff_ne.mpr c55
            have c55b1 : (a0_0 != 6) = true := bne_iff_ne.mpr c55
            (first | rw [c55b0] | (simp only [i64_w, i32_w]; rw [c55b0]) | skip)
            have H' := Aside0.mk H
            clear H
            have hcz59_0 : wc.cell? ⟨gb206, 0, none⟩ = some (.int .u8 a0_0) := (blk_cell BK206.out 0).trans rfl
            have hcz59_1 : wc.cell? ⟨gb206, 1, none⟩ = some (.int .u8 a0_1) := (blk_cell BK206.out 1).trans rfl
            have hcz59_2 : wc.cell? ⟨gb206, 2, none⟩ = some (.int .i64 a0_2) := (blk_cell BK206.out 2).trans rfl
            have hcz59_3 : wc.cell? ⟨gb206, 3, none⟩ = some (.int .u32 a0_3) := (blk_cell BK206.out 3).trans rfl
            have hcz59_4 : wc.cell? ⟨gb206, 4, none⟩ = some (.int .u16 a0_4) := (blk_cell BK206.out 4).trans rfl
            have hcz59_5 : wc.cell? ⟨gb206, 5, none⟩ = some (.int .i64 a0_5) := (blk_cell BK206.out 5).trans rfl
            have hcz59_6 : wc.cell? ⟨gb206, 6, none⟩ = some (.int .i64 a0_6) := (blk_cell BK206.out 6).trans rfl
            have hcz59_7 : wc.cell? ⟨gb206, 7, none⟩ = some (.int .i64 a0_7) := (blk_cell BK206.out 7).trans rfl
            have hcz59_8 : wc.cell? ⟨gb206, 8, none⟩ = some (.int .u64 a0_8) := (blk_cell BK206.out 8).trans rfl
            have hcz59_9 : wc.cell? ⟨gb206, 9, none⟩ = some (.int .u64 a0_9) := (blk_cell BK206.out 9).trans rfl
            have hcz59_10 : wc.cell? ⟨gb206, 10, none⟩ = some (.slice A0_10 l0_10.length c0_10) := (blk_cell BK206.out 10).trans rfl
            have hfz59_0 := blk_frozen BK206.out 0
            have hfz59_1 := blk_frozen BK206.out 1
            have hfz59_2 := blk_frozen BK206.out 2
            have hfz59_3 := blk_frozen BK206.out 3
            have hfz59_4 := blk_frozen BK206.out 4
            have hfz59_5 := blk_frozen BK206.out 5
            have hfz59_6 := blk_frozen BK206.out 6
            have hfz59_7 := blk_frozen BK206.out 7
            have hfz59_8 := blk_frozen BK206.out 8
            have hfz59_9 := blk_frozen BK206.out 9
            have hfz59_10 := blk_frozen BK206.out 10
            go_wp2
            go_meet
            case rel => exact ⟨_, (decide ((l0_10.length : Int) > 0)), (by first | rfl | (simp; done) | (simp [*]; done)), H', ⟨by have := HJ1.out; have := HJ12.out; have := HJ42.out; first | omega | exact Nat.le_refl _⟩, ⟨by (with_reducible repeat (first | refine blk_drewN ?_ _ | refine blk_drew ?_ | refine blk_alloc ?_ _)); exact BK206.out⟩, ⟨by repeat (first | (with_reducible first | exact HB.out | apply below_alloc | apply pw_below_drewN | apply below_drew1 | refine below_set ?_ GE206.out) | exact HB.out)⟩⟩
          case rest =>
           clear HC54
           try clear p2
           try clear c3
           try clear c4
           try clear c5
           try clear p6
           try clear c36
           try clear c36b1
           try clear c36b2
           try clear c40
           try clear c40b0
           try clear c40b1
           try clear c40b2
           try clear c42
           try clear c44
           try clear c44b0
           try clear c44b1
           try clear c45
           try clear c45b0
           try clear c47
           try clear c47b0
           try clear c49
           try clear c49b0
           try clear c49b1
           try clear c53
           try clear c55
           try clear c55b0
           try clear c55b1
           try clear c56
           try clear c56b0
           try clear c56b1
           try clear hcz19_0
           try clear hcz19_1
           try clear hcz19_10
           try clear hcz19_2
           try clear hcz19_3
           try clear hcz19_4
           try clear hcz19_5
           try clear hcz19_6
           try clear hcz19_7
           try clear hcz19_8
           try clear hcz19_9
           try clear hcz20_0
           try clear hcz20_1
           try clear hcz20_10
           try clear hcz20_2
           try clear hcz20_3
           try clear hcz20_4
           try clear hcz20_5
           try clear hcz20_6
           try clear hcz20_7
           try clear hcz20_8
           try clear hcz20_9
           try clear hcz21_0
           try clear hcz21_1
           try clear hcz21_10
           try clear hcz21_2
           try clear hcz21_3
           try clear hcz21_4
           try clear hcz21_5
           try clear hcz21_6
           try clear hcz21_7
           try clear hcz21_8
           try clear hcz21_9
           try clear hcz23_0
           try clear hcz23_1
           try clear hcz23_10
           try clear hcz23_2
           try clear hcz23_3
           try clear hcz23_4
           try clear hcz23_5
           try clear hcz23_6
           try clear hcz23_7
           try clear hcz23_8
           try clear hcz23_9
           try clear hcz24_0
           try clear hcz24_1
           try clear hcz24_10
           try clear hcz24_2
           try clear hcz24_3
           try clear hcz24_4
           try clear hcz24_5
           try clear hcz24_6
           try clear hcz24_7
           try clear hcz24_8
           try clear hcz24_9
           try clear hcz28_0
           try clear hcz28_1
           try clear hcz28_10
           try clear hcz28_2
           try clear hcz28_3
           try clear hcz28_4
           try clear hcz28_5
           try clear hcz28_6
           try clear hcz28_7
           try clear hcz28_8
           try clear hcz28_9
           try clear hcz29_0
           try clear hcz29_1
           try clear hcz29_10
           try clear hcz29_2
           try clear hcz29_3
           try clear hcz29_4
           try clear hcz29_5
           try clear hcz29_6
           try clear hcz29_7
           try clear hcz29_8
           try clear hcz29_9
           try clear hcz31_0
           try clear hcz31_1
           try clear hcz31_10
           try clear hcz31_2
           try clear hcz31_3
           try clear hcz31_4
           try clear hcz31_5
           try clear hcz31_6
           try clear hcz31_7
           try clear hcz31_8
           try clear hcz31_9
           try clear hcz32_0
           try clear hcz32_1
           try clear hcz32_10
           try clear hcz32_2
           try clear hcz32_3
           try clear hcz32_4
           try clear hcz32_5
           try clear hcz32_6
           try clear hcz32_7
           try clear hcz32_8
           try clear hcz32_9
           try clear hcz33_0
           try clear hcz33_1
           try clear hcz33_10
           try clear hcz33_2
           try clear hcz33_3
           try clear hcz33_4
           try clear hcz33_5
           try clear hcz33_6
           try clear hcz33_7
           try clear hcz33_8
           try clear hcz33_9
           try clear hcz37_0
           try clear hcz37_1
           try clear hcz37_10
           try clear hcz37_2
           try clear hcz37_3
           try clear hcz37_4
           try clear hcz37_5
           try clear hcz37_6
           try clear hcz37_7
           try clear hcz37_8
           try clear hcz37_9
           try clear hcz38_0
           try clear hcz38_1
           try clear hcz38_10
           try clear hcz38_2
           try clear hcz38_3
           try clear hcz38_4
           try clear hcz38_5
           try clear hcz38_6
           try clear hcz38_7
           try clear hcz38_8
           try clear hcz38_9
           try clear hcz39_0
           try clear hcz39_1
           try clear hcz39_10
           try clear hcz39_2
           try clear hcz39_3
           try clear hcz39_4
           try clear hcz39_5
           try clear hcz39_6
           try clear hcz39_7
           try clear hcz39_8
           try clear hcz39_9
           try clear hcz41_0
           try clear hcz41_1
           try clear hcz41_10
           try clear hcz41_2
           try clear hcz41_3
           try clear hcz41_4
           try clear hcz41_5
           try clear hcz41_6
           try clear hcz41_7
           try clear hcz41_8
           try clear hcz41_9
           try clear hcz46_0
           try clear hcz46_1
           try clear hcz46_10
           try clear hcz46_2
           try clear hcz46_3
           try clear hcz46_4
           try clear hcz46_5
           try clear hcz46_6
           try clear hcz46_7
           try clear hcz46_8
           try clear hcz46_9
           try clear hcz48_0
           try clear hcz48_1
           try clear hcz48_10
           try clear hcz48_2
           try clear hcz48_3
           try clear hcz48_4
           try clear hcz48_5
           try clear hcz48_6
           try clear hcz48_7
           try clear hcz48_8
           try clear hcz48_9
           try clear hcz50_0
           try clear hcz50_1
           try clear hcz50_10
           try clear hcz50_2
           try clear hcz50_3
           try clear hcz50_4
           try clear hcz50_5
           try clear hcz50_6
           try clear hcz50_7
           try clear hcz50_8
           try clear hcz50_9
           try clear hcz51_0
           try clear hcz51_1
           try clear hcz51_10
           try clear hcz51_2
           try clear hcz51_3
           try clear hcz51_4
           try clear hcz51_5
           try clear hcz51_6
           try clear hcz51_7
           try clear hcz51_8
           try clear hcz51_9
           try clear hcz52_0
           try clear hcz52_1
           try clear hcz52_10
           try clear hcz52_2
           try clear hcz52_3
           try clear hcz52_4
           try clear hcz52_5
           try clear hcz52_6
           try clear hcz52_7
           try clear hcz52_8
           try clear hcz52_9
           try clear hcz57_0
           try clear hcz57_1
           try clear hcz57_10
           try clear hcz57_2
           try clear hcz57_3
           try clear hcz57_4
           try clear hcz57_5
           try clear hcz57_6
           try clear hcz57_7
           try clear hcz57_8
           try clear hcz57_9
           try clear hcz58_0
           try clear hcz58_1
           try clear hcz58_10
           try clear hcz58_2
           try clear hcz58_3
           try clear hcz58_4
           try clear hcz58_5
           try clear hcz58_6
           try clear hcz58_7
           try clear hcz58_8
           try clear hcz58_9
           try clear hcz59_0
           try clear hcz59_1
           try clear hcz59_10
           try clear hcz59_2
           try clear hcz59_3
           try clear hcz59_4
           try clear hcz59_5
           try clear hcz59_6
           try clear hcz59_7
           try clear hcz59_8
           try clear hcz59_9
           try clear hfz19_0
           try clear hfz19_1
           try clear hfz19_10
           try clear hfz19_2
           try clear hfz19_3
           try clear hfz19_4
           try clear hfz19_5
           try clear hfz19_6
           try clear hfz19_7
           try clear hfz19_8
           try clear hfz19_9
           try clear hfz20_0
           try clear hfz20_1
           try clear hfz20_10
           try clear hfz20_2
           try clear hfz20_3
           try clear hfz20_4
           try clear hfz20_5
           try clear hfz20_6
           try clear hfz20_7
           try clear hfz20_8
           try clear hfz20_9
           try clear hfz21_0
           try clear hfz21_1
           try clear hfz21_10
           try clear hfz21_2
           try clear hfz21_3
           try clear hfz21_4
           try clear hfz21_5
           try clear hfz21_6
           try clear hfz21_7
           try clear hfz21_8
           try clear hfz21_9
           try clear hfz23_0
           try clear hfz23_1
           try clear hfz23_10
           try clear hfz23_2
           try clear hfz23_3
           try clear hfz23_4
           try clear hfz23_5
           try clear hfz23_6
           try clear hfz23_7
           try clear hfz23_8
           try clear hfz23_9
           try clear hfz24_0
           try clear hfz24_1
           try clear hfz24_10
           try clear hfz24_2
           try clear hfz24_3
           try clear hfz24_4
           try clear hfz24_5
           try clear hfz24_6
           try clear hfz24_7
           try clear hfz24_8
           try clear hfz24_9
           try clear hfz28_0
           try clear hfz28_1
           try clear hfz28_10
           try clear hfz28_2
           try clear hfz28_3
           try clear hfz28_4
           try clear hfz28_5
           try clear hfz28_6
           try clear hfz28_7
           try clear hfz28_8
           try clear hfz28_9
           try clear hfz29_0
           try clear hfz29_1
           try clear hfz29_10
           try clear hfz29_2
           try clear hfz29_3
           try clear hfz29_4
           try clear hfz29_5
           try clear hfz29_6
           try clear hfz29_7
           try clear hfz29_8
           try clear hfz29_9
           try clear hfz31_0
           try clear hfz31_1
           try clear hfz31_10
           try clear hfz31_2
           try clear hfz31_3
           try clear hfz31_4
           try clear hfz31_5
           try clear hfz31_6
           try clear hfz31_7
           try clear hfz31_8
           try clear hfz31_9
           try clear hfz32_0
           try clear hfz32_1
           try clear hfz32_10
           try clear hfz32_2
           try clear hfz32_3
           try clear hfz32_4
           try clear hfz32_5
           try clear hfz32_6
           try clear hfz32_7
           try clear hfz32_8
           try clear hfz32_9
           try clear hfz33_0
           try clear hfz33_1
           try clear hfz33_10
           try clear hfz33_2
           try clear hfz33_3
           try clear hfz33_4
           try clear hfz33_5
           try clear hfz33_6
           try clear hfz33_7
           try clear hfz33_8
           try clear hfz33_9
           try clear hfz37_0
           try clear hfz37_1
           try clear hfz37_10
           try clear hfz37_2
           try clear hfz37_3
           try clear hfz37_4
           try clear hfz37_5
           try clear hfz37_6
           try clear hfz37_7
           try clear hfz37_8
           try clear hfz37_9
           try clear hfz38_0
           try clear hfz38_1
           try clear hfz38_10
           try clear hfz38_2
           try clear hfz38_3
           try clear hfz38_4
           try clear hfz38_5
           try clear hfz38_6
           try clear hfz38_7
           try clear hfz38_8
           try clear hfz38_9
           try clear hfz39_0
           try clear hfz39_1
           try clear hfz39_10
           try clear hfz39_2
           try clear hfz39_3
           try clear hfz39_4
           try clear hfz39_5
           try clear hfz39_6
           try clear hfz39_7
           try clear hfz39_8
           try clear hfz39_9
           try clear hfz41_0
           try clear hfz41_1
           try clear hfz41_10
           try clear hfz41_2
           try clear hfz41_3
           try clear hfz41_4
           try clear hfz41_5
           try clear hfz41_6
           try clear hfz41_7
           try clear hfz41_8
           try clear hfz41_9
           try clear hfz46_0
           try clear hfz46_1
           try clear hfz46_10
           try clear hfz46_2
           try clear hfz46_3
           try clear hfz46_4
           try clear hfz46_5
           try clear hfz46_6
           try clear hfz46_7
           try clear hfz46_8
           try clear hfz46_9
           try clear hfz48_0
           try clear hfz48_1
           try clear hfz48_10
           try clear hfz48_2
           try clear hfz48_3
           try clear hfz48_4
           try clear hfz48_5
           try clear hfz48_6
           try clear hfz48_7
           try clear hfz48_8
           try clear hfz48_9
           try clear hfz4_10
           try clear hfz4_2
           try clear hfz4_3
           try clear hfz4_4
           try clear hfz4_5
           try clear hfz4_6
           try clear hfz4_7
           try clear hfz4_8
           try clear hfz4_9
           try clear hfz50_0
           try clear hfz50_1
           try clear hfz50_10
           try clear hfz50_2
           try clear hfz50_3
           try clear hfz50_4
           try clear hfz50_5
           try clear hfz50_6
           try clear hfz50_7
           try clear hfz50_8
           try clear hfz50_9
           try clear hfz51_0
           try clear hfz51_1
           try clear hfz51_10
           try clear hfz51_2
           try clear hfz51_3
           try clear hfz51_4
           try clear hfz51_5
           try clear hfz51_6
           try clear hfz51_7
           try clear hfz51_8
           try clear hfz51_9
           try clear hfz52_0
           try clear hfz52_1
           try clear hfz52_10
           try clear hfz52_2
           try clear hfz52_3
           try clear hfz52_4
           try clear hfz52_5
           try clear hfz52_6
           try clear hfz52_7
           try clear hfz52_8
           try clear hfz52_9
           try clear hfz57_0
           try clear hfz57_1
           try clear hfz57_10
           try clear hfz57_2
           try clear hfz57_3
           try clear hfz57_4
           try clear hfz57_5
           try clear hfz57_6
           try clear hfz57_7
           try clear hfz57_8
           try clear hfz57_9
           try clear hfz58_0
           try clear hfz58_1
           try clear hfz58_10
           try clear hfz58_2
           try clear hfz58_3
           try clear hfz58_4
           try clear hfz58_5
           try clear hfz58_6
           try clear hfz58_7
           try clear hfz58_8
           try clear hfz58_9
           try clear hfz59_0
           try clear hfz59_1
           try clear hfz59_10
           try clear hfz59_2
           try clear hfz59_3
           try clear hfz59_4
           try clear hfz59_5
           try clear hfz59_6
           try clear hfz59_7
           try clear hfz59_8
           try clear hfz59_9
           try clear hfz6_0
           try clear hfz6_1
           try clear hfz6_10
           try clear hfz6_2
           try clear hfz6_3
           try clear hfz6_4
           try clear hfz6_5
           try clear hfz6_6
           try clear hfz6_7
           try clear hfz6_8
           try clear hfz6_9
           try clear hfz8_0
           try clear hfz8_1
           try clear hfz8_10
           try clear hfz8_2
           try clear hfz8_3
           try clear hfz8_4
           try clear hfz8_5
           try clear hfz8_6
           try clear hfz8_7
           try clear hfz8_8
           try clear hfz8_9
           try clear p2
           try clear p6
           obtain ⟨kq, x112_53, rfl, HA, HJ53, BK206, HB⟩ := hcut
           cases kq with
           | zero => exact absurd HA.out (by simp [towroperef26_Check.j3])
           | succ kj53 =>
            have H := HA.out
            clear HA
            simp only [towroperef26_Check.j3] at H
            by_cases c60 : x112_53 = true
            ·
             subst c60
             have H1 : (some 260) = some r := by rw [if_pos rfl] at H; exact H
             clear H
             have H := H1
             clear H1
             obtain rfl := Option.some.inj H
             go_wp2
             go_ret
             exact ⟨by first | rfl | (simp [errW_none, errW_some] <;> rfl) | (simp [*, errW_none, errW_some] <;> rfl), by repeat (first | (with_reducible first | exact HB.out | apply below_alloc | apply pw_below_drewN | apply below_drew1 | refine below_set ?_ GE206.out) | exact HB.out)⟩
            ·
             replace c60 := Bool.eq_false_iff.mpr c60
             subst c60
             have H1 : (if a0_0 = 10 then (if a0_8 > 1073741824 then (some 260) else (some 0)) else (if a0_0 = 11 then (if a0_8 > 1073741824 then (some 260) else (some 0)) else (some 0))) = some r := by rw [if_neg (show ¬ (false = true) by decide)] at H; exact H
             clear H
             have H := H1
             clear H1
             by_cases c61 : a0_0 = 10
             ·
              rw [if_pos c61] at H
              have c61b0 : (a0_0 == 10) = true := beq_iff_eq.mpr c61
              have c61b1 : (a0_0 != 10) = false := bne_eq_false_iff_eq.mpr c61
              clear c61
              by_cases c62 : a0_8 > 1073741824
              ·
               rw [if_pos c62] at H
               have c62b0 : decide (1073741824 < a0_8) = true := decide_eq_true c62
               clear c62
               obtain rfl := Option.some.inj H
               have hcz63_0 : wc.cell? ⟨gb206, 0, none⟩ = some (.int .u8 a0_0) := (blk_cell BK206.out 0).trans rfl
               have hcz63_1 : wc.cell? ⟨gb206, 1, none⟩ = some (.int .u8 a0_1) := (blk_cell BK206.out 1).trans rfl
               have hcz63_2 : wc.cell? ⟨gb206, 2, none⟩ = some (.int .i64 a0_2) := (blk_cell BK206.out 2).trans rfl
               have hcz63_3 : wc.cell? ⟨gb206, 3, none⟩ = some (.int .u32 a0_3) := (blk_cell BK206.out 3).trans rfl
               have hcz63_4 : wc.cell? ⟨gb206, 4, none⟩ = some (.int .u16 a0_4) := (blk_cell BK206.out 4).trans rfl
               have hcz63_5 : wc.cell? ⟨gb206, 5, none⟩ = some (.int .i64 a0_5) := (blk_cell BK206.out 5).trans rfl
               have hcz63_6 : wc.cell? ⟨gb206, 6, none⟩ = some (.int .i64 a0_6) := (blk_cell BK206.out 6).trans rfl
               have hcz63_7 : wc.cell? ⟨gb206, 7, none⟩ = some (.int .i64 a0_7) := (blk_cell BK206.out 7).trans rfl
               have hcz63_8 : wc.cell? ⟨gb206, 8, none⟩ = some (.int .u64 a0_8) := (blk_cell BK206.out 8).trans rfl
               have hcz63_9 : wc.cell? ⟨gb206, 9, none⟩ = some (.int .u64 a0_9) := (blk_cell BK206.out 9).trans rfl
               have hcz63_10 : wc.cell? ⟨gb206, 10, none⟩ = some (.slice A0_10 l0_10.length c0_10) := (blk_cell BK206.out 10).trans rfl
               have hfz63_0 := blk_frozen BK206.out 0
               have hfz63_1 := blk_frozen BK206.out 1
               have hfz63_2 := blk_frozen BK206.out 2
               have hfz63_3 := blk_frozen BK206.out 3
               have hfz63_4 := blk_frozen BK206.out 4
               have hfz63_5 := blk_frozen BK206.out 5
               have hfz63_6 := blk_frozen BK206.out 6
               have hfz63_7 := blk_frozen BK206.out 7
               have hfz63_8 := blk_frozen BK206.out 8
               have hfz63_9 := blk_frozen BK206.out 9
               have hfz63_10 := blk_frozen BK206.out 10
               go_wp2
               go_ret
               exact ⟨by first | rfl | (simp [errW_none, errW_some] <;> rfl) | (simp [*, errW_none, errW_some] <;> rfl), by repeat (first | (with_reducible first | exact HB.out | apply below_alloc | apply pw_below_drewN | apply below_drew1 | refine below_set ?_ GE206.out) | exact HB.out)⟩
              ·
               rw [if_neg c62] at H
               have c62b0 : decide (1073741824 < a0_8) = false := decide_eq_false c62
               clear c62
               obtain rfl := Option.some.inj H
               have hcz64_0 : wc.cell? ⟨gb206, 0, none⟩ = some (.int .u8 a0_0) := (blk_cell BK206.out 0).trans rfl
               have hcz64_1 : wc.cell? ⟨gb206, 1, none⟩ = some (.int .u8 a0_1) := (blk_cell BK206.out 1).trans rfl
               have hcz64_2 : wc.cell? ⟨gb206, 2, none⟩ = some (.int .i64 a0_2) := (blk_cell BK206.out 2).trans rfl
               have hcz64_3 : wc.cell? ⟨gb206, 3, none⟩ = some (.int .u32 a0_3) := (blk_cell BK206.out 3).trans rfl
               have hcz64_4 : wc.cell? ⟨gb206, 4, none⟩ = some (.int .u16 a0_4) := (blk_cell BK206.out 4).trans rfl
               have hcz64_5 : wc.cell? ⟨gb206, 5, none⟩ = some (.int .i64 a0_5) := (blk_cell BK206.out 5).trans rfl
               have hcz64_6 : wc.cell? ⟨gb206, 6, none⟩ = some (.int .i64 a0_6) := (blk_cell BK206.out 6).trans rfl
               have hcz64_7 : wc.cell? ⟨gb206, 7, none⟩ = some (.int .i64 a0_7) := (blk_cell BK206.out 7).trans rfl
               have hcz64_8 : wc.cell? ⟨gb206, 8, none⟩ = some (.int .u64 a0_8) := (blk_cell BK206.out 8).trans rfl
               have hcz64_9 : wc.cell? ⟨gb206, 9, none⟩ = some (.int .u64 a0_9) := (blk_cell BK206.out 9).trans rfl
               have hcz64_10 : wc.cell? ⟨gb206, 10, none⟩ = some (.slice A0_10 l0_10.length c0_10) := (blk_cell BK206.out 10).trans rfl
               have hfz64_0 := blk_frozen BK206.out 0
               have hfz64_1 := blk_frozen BK206.out 1
               have hfz64_2 := blk_frozen BK206.out 2
               have hfz64_3 := blk_frozen BK206.out 3
               have hfz64_4 := blk_frozen BK206.out 4
               have hfz64_5 := blk_frozen BK206.out 5
               have hfz64_6 := blk_frozen BK206.out 6
               have hfz64_7 := blk_frozen BK206.out 7
               have hfz64_8 := blk_frozen BK206.out 8
               have hfz64_9 := blk_frozen BK206.out 9
               have hfz64_10 := blk_frozen BK206.out 10
               go_wp2
               go_ret
               exact ⟨by first | rfl | (simp [errW_none, errW_some] <;> rfl) | (simp [*, errW_none, errW_some] <;> rfl), by repeat (first | (with_reducible first | exact HB.out | apply below_alloc | apply pw_below_drewN | apply below_drew1 | refine below_set ?_ GE206.out) | exact HB.out)⟩
             ·
              rw [if_neg c61] at H
              have c61b0 : (a0_0 == 10) = false := beq_eq_false_iff_ne.mpr c61
              have c61b1 : (a0_0 != 10) = true := bne_iff_ne.mpr c61
              by_cases c65 : a0_0 = 11
              ·
               rw [if_pos c65] at H
               have c65b0 : (a0_0 == 11) = true := beq_iff_eq.mpr c65
               have c65b1 : (a0_0 != 11) = false := bne_eq_false_iff_eq.mpr c65
               clear c65
               by_cases c66 : a0_8 > 1073741824
               ·
                rw [if_pos c66] at H
                have c66b0 : decide (1073741824 < a0_8) = true := decide_eq_true c66
                clear c66
                obtain rfl := Option.some.inj H
                have hcz67_0 : wc.cell? ⟨gb206, 0, none⟩ = some (.int .u8 a0_0) := (blk_cell BK206.out 0).trans rfl
                have hcz67_1 : wc.cell? ⟨gb206, 1, none⟩ = some (.int .u8 a0_1) := (blk_cell BK206.out 1).trans rfl
                have hcz67_2 : wc.cell? ⟨gb206, 2, none⟩ = some (.int .i64 a0_2) := (blk_cell BK206.out 2).trans rfl
                have hcz67_3 : wc.cell? ⟨gb206, 3, none⟩ = some (.int .u32 a0_3) := (blk_cell BK206.out 3).trans rfl
                have hcz67_4 : wc.cell? ⟨gb206, 4, none⟩ = some (.int .u16 a0_4) := (blk_cell BK206.out 4).trans rfl
                have hcz67_5 : wc.cell? ⟨gb206, 5, none⟩ = some (.int .i64 a0_5) := (blk_cell BK206.out 5).trans rfl
                have hcz67_6 : wc.cell? ⟨gb206, 6, none⟩ = some (.int .i64 a0_6) := (blk_cell BK206.out 6).trans rfl
                have hcz67_7 : wc.cell? ⟨gb206, 7, none⟩ = some (.int .i64 a0_7) := (blk_cell BK206.out 7).trans rfl
                have hcz67_8 : wc.cell? ⟨gb206, 8, none⟩ = some (.int .u64 a0_8) := (blk_cell BK206.out 8).trans rfl
                have hcz67_9 : wc.cell? ⟨gb206, 9, none⟩ = some (.int .u64 a0_9) := (blk_cell BK206.out 9).trans rfl
                have hcz67_10 : wc.cell? ⟨gb206, 10, none⟩ = some (.slice A0_10 l0_10.length c0_10) := (blk_cell BK206.out 10).trans rfl
                have hfz67_0 := blk_frozen BK206.out 0
                have hfz67_1 := blk_frozen BK206.out 1
                have hfz67_2 := blk_frozen BK206.out 2
                have hfz67_3 := blk_frozen BK206.out 3
                have hfz67_4 := blk_frozen BK206.out 4
                have hfz67_5 := blk_frozen BK206.out 5
                have hfz67_6 := blk_frozen BK206.out 6
                have hfz67_7 := blk_frozen BK206.out 7
                have hfz67_8 := blk_frozen BK206.out 8
                have hfz67_9 := blk_frozen BK206.out 9
                have hfz67_10 := blk_frozen BK206.out 10
                go_wp2
                go_ret
                exact ⟨by first | rfl | (simp [errW_none, errW_some] <;> rfl) | (simp [*, errW_none, errW_some] <;> rfl), by repeat (first | (with_reducible first | exact HB.out | apply below_alloc | apply pw_below_drewN | apply below_drew1 | refine below_set ?_ GE206.out) | exact HB.out)⟩
               ·
                rw [if_neg c66] at H
                have c66b0 : decide (1073741824 < a0_8) = false := decide_eq_false c66
                clear c66
                obtain rfl := Option.some.inj H
                have hcz68_0 : wc.cell? ⟨gb206, 0, none⟩ = some (.int .u8 a0_0) := (blk_cell BK206.out 0).trans rfl
                have hcz68_1 : wc.cell? ⟨gb206, 1, none⟩ = some (.int .u8 a0_1) := (blk_cell BK206.out 1).trans rfl
                have hcz68_2 : wc.cell? ⟨gb206, 2, none⟩ = some (.int .i64 a0_2) := (blk_cell BK206.out 2).trans rfl
                have hcz68_3 : wc.cell? ⟨gb206, 3, none⟩ = some (.int .u32 a0_3) := (blk_cell BK206.out 3).trans rfl
                have hcz68_4 : wc.cell? ⟨gb206, 4, none⟩ = some (.int .u16 a0_4) := (blk_cell BK206.out 4).trans rfl
                have hcz68_5 : wc.cell? ⟨gb206, 5, none⟩ = some (.int .i64 a0_5) := (blk_cell BK206.out 5).trans rfl
                have hcz68_6 : wc.cell? ⟨gb206, 6, none⟩ = some (.int .i64 a0_6) := (blk_cell BK206.out 6).trans rfl
                have hcz68_7 : wc.cell? ⟨gb206, 7, none⟩ = some (.int .i64 a0_7) := (blk_cell BK206.out 7).trans rfl
                have hcz68_8 : wc.cell? ⟨gb206, 8, none⟩ = some (.int .u64 a0_8) := (blk_cell BK206.out 8).trans rfl
                have hcz68_9 : wc.cell? ⟨gb206, 9, none⟩ = some (.int .u64 a0_9) := (blk_cell BK206.out 9).trans rfl
                have hcz68_10 : wc.cell? ⟨gb206, 10, none⟩ = some (.slice A0_10 l0_10.length c0_10) := (blk_cell BK206.out 10).trans rfl
                have hfz68_0 := blk_frozen BK206.out 0
                have hfz68_1 := blk_frozen BK206.out 1
                have hfz68_2 := blk_frozen BK206.out 2
                have hfz68_3 := blk_frozen BK206.out 3
                have hfz68_4 := blk_frozen BK206.out 4
                have hfz68_5 := blk_frozen BK206.out 5
                have hfz68_6 := blk_frozen BK206.out 6
                have hfz68_7 := blk_frozen BK206.out 7
                have hfz68_8 := blk_frozen BK206.out 8
                have hfz68_9 := blk_frozen BK206.out 9
                have hfz68_10 := blk_frozen BK206.out 10
                go_wp2
                go_ret
                exact ⟨by first | rfl | (simp [errW_none, errW_some] <;> rfl) | (simp [*, errW_none, errW_some] <;> rfl), by repeat (first | (with_reducible first | exact HB.out | apply below_alloc | apply pw_below_drewN | apply below_drew1 | refine below_set ?_ GE206.out) | exact HB.out)⟩
              ·
               rw [if_neg c65] at H
               have c65b0 : (a0_0 == 11) = false := beq_eq_false_iff_ne.mpr c65
               have c65b1 : (a0_0 != 11) = true := bne_iff_ne.mpr c65
               obtain rfl := Option.some.inj H
               have hcz69_0 : wc.cell? ⟨gb206, 0, none⟩ = some (.int .u8 a0_0) := (blk_cell BK206.out 0).trans rfl
               have hcz69_1 : wc.cell? ⟨gb206, 1, none⟩ = some (.int .u8 a0_1) := (blk_cell BK206.out 1).trans rfl
               have hcz69_2 : wc.cell? ⟨gb206, 2, none⟩ = some (.int .i64 a0_2) := (blk_cell BK206.out 2).trans rfl
               have hcz69_3 : wc.cell? ⟨gb206, 3, none⟩ = some (.int .u32 a0_3) := (blk_cell BK206.out 3).trans rfl
               have hcz69_4 : wc.cell? ⟨gb206, 4, none⟩ = some (.int .u16 a0_4) := (blk_cell BK206.out 4).trans rfl
               have hcz69_5 : wc.cell? ⟨gb206, 5, none⟩ = some (.int .i64 a0_5) := (blk_cell BK206.out 5).trans rfl
               have hcz69_6 : wc.cell? ⟨gb206, 6, none⟩ = some (.int .i64 a0_6) := (blk_cell BK206.out 6).trans rfl
               have hcz69_7 : wc.cell? ⟨gb206, 7, none⟩ = some (.int .i64 a0_7) := (blk_cell BK206.out 7).trans rfl
               have hcz69_8 : wc.cell? ⟨gb206, 8, none⟩ = some (.int .u64 a0_8) := (blk_cell BK206.out 8).trans rfl
               have hcz69_9 : wc.cell? ⟨gb206, 9, none⟩ = some (.int .u64 a0_9) := (blk_cell BK206.out 9).trans rfl
               have hcz69_10 : wc.cell? ⟨gb206, 10, none⟩ = some (.slice A0_10 l0_10.length c0_10) := (blk_cell BK206.out 10).trans rfl
               have hfz69_0 := blk_frozen BK206.out 0
               have hfz69_1 := blk_frozen BK206.out 1
               have hfz69_2 := blk_frozen BK206.out 2
               have hfz69_3 := blk_frozen BK206.out 3
               have hfz69_4 := blk_frozen BK206.out 4
               have hfz69_5 := blk_frozen BK206.out 5
               have hfz69_6 := blk_frozen BK206.out 6
               have hfz69_7 := blk_frozen BK206.out 7
               have hfz69_8 := blk_frozen BK206.out 8
               have hfz69_9 := blk_frozen BK206.out 9
               have hfz69_10 := blk_frozen BK206.out 10
               go_wp2
               go_ret
               exact ⟨by first | rfl | (simp [errW_none, errW_some] <;> rfl) | (simp [*, errW_none, errW_some] <;> rfl), by repeat (first | (with_reducible first | exact HB.out | apply below_alloc | apply pw_below_drewN | apply below_drew1 | refine below_set ?_ GE206.out) | exact HB.out)⟩

end Go.Proofs.Ytilkbmjkjlbfmaa.PEnt
