/- A printed walk. No condition. -/
import Derived.Test.YtiddgglidkbipaaVFnLocksBentG12
import Derived.Test.YtiddgglidkbipaaVFnLocksBentG22
import Derived.Test.YtiddgglidkbipaaVFnLocksBentG23
import Derived.Test.YtiddgglidkbipaaVFnLocksBentG24
import Derived.Test.YtiddgglidkbipaaVFnLocksBentG26
import Derived.Test.YtiddgglidkbipaaVFnLocksBentG29
import Derived.Test.YtiddgglidkbipaaVFnLocksBentG30
import Derived.Test.YtiddgglidkbipaaVFnLocksBentG31
import Derived.Test.YtiddgglidkbipaaVFnLocksBentG32
import Derived.Test.YtiddgglidkbipaaVFnLocksBentG25
set_option linter.unusedSimpArgs false
set_option linter.unusedVariables false
namespace Go.Proofs.Ytiddgglidkbipaa.Q
open Go.RowKit Go.Proofs.YtiddgglidkbipaaW.PrintWords Go.Proofs.YtiddgglidkbipaaW.PrintLast Go.Proofs.YtiddgglidkbipaaW.PrintMore
attribute [local go_sem] max2_int min2_int max_two min_two max_three min_three max_four min_four
theorem liveLocksN.calls (k : Nat) (A0 : Option Addr) (c0 : Nat) (l0 : List (S28)) (a1 : Int) (r : List (S28)) (w : World) (hr0 : Kd.C k28 w A0 l0.length l0) (hc0 : l0.length ≤ c0) (h : impl_LiveLocks.f k l0 a1 = some r) :
 Calls Try.prog 37 #[.slice A0 l0.length c0, .int .i64 a1] w fun e w' => ∃ v0_ : Value, e = .returned (v0_) ∧ Kd.N k28 28 w' w.heap.size (fun k_ => (w.heap.size ≤ k_)) v0_ r ∧ Below w.heap.size w w' := by
 refine (impl_LiveLocks.calls k A0 c0 l0 a1 r w hr0 hc0 h).mono ?_
 rintro e w' ⟨v, e1, h2, hb⟩
 exact ⟨v, e1, Kd.N_mono (Kd.S_N (Kd.S_bound h2)) (fun _ hk => hk.2.1), hb⟩
def laws_FnLocksBent.f (k : Nat) (l0 : List Int) : Option (Bool) := (laws_big.f l0).bind fun t1104 => (if t1104 = true then (some true) else ((spec_DrawLockOk.f k l0).bind fun bt1105 => ((spec_DrawCovers.f k l0).bind fun bt1113 => ((spec_DrawLockClash.f k l0).bind fun bt1124 => ((spec_DrawDropLock.f k l0).bind fun bt1140 => ((impl_DropLock.f k bt1140.1 bt1140.2).bind fun bt1144 => ((spec_DropLock.f k bt1140.1 bt1140.2).bind fun bt1148 => ((spec_DrawLiveLocks.f k l0).bind fun bt1152 => ((spec_DrawTokensAt.f k l0).bind fun bt1156 => ((spec_DrawMayTurn.f k l0).bind fun bt1162 => ((impl_LockOk.f k bt1105.1 bt1105.2.1 bt1105.2.2.1 bt1105.2.2.2.1 bt1105.2.2.2.2).bind fun t1172 => ((spec_LockOk.f k bt1105.1 bt1105.2.1 bt1105.2.2.1 bt1105.2.2.2.1 bt1105.2.2.2.2).bind fun t1173 => (if (t1172 == t1173) = true then ((impl_Covers.f k bt1113.1 bt1113.2.1 bt1113.2.2.1 bt1113.2.2.2.1 bt1113.2.2.2.2.1 bt1113.2.2.2.2.2).bind fun t1174 => ((spec_Covers.f k bt1113.1 bt1113.2.1 bt1113.2.2.1 bt1113.2.2.2.1 bt1113.2.2.2.2.1 bt1113.2.2.2.2.2).bind fun t1175 => (if (t1174 == t1175) = true then ((impl_LockClash.f k bt1124.1 bt1124.2.1 bt1124.2.2.1 bt1124.2.2.2.1 bt1124.2.2.2.2.1 bt1124.2.2.2.2.2.1 bt1124.2.2.2.2.2.2.1 bt1124.2.2.2.2.2.2.2.1 bt1124.2.2.2.2.2.2.2.2.1 bt1124.2.2.2.2.2.2.2.2.2).bind fun t1176 => ((spec_LockClash.f k bt1124.1 bt1124.2.1 bt1124.2.2.1 bt1124.2.2.2.1 bt1124.2.2.2.2.1 bt1124.2.2.2.2.2.1 bt1124.2.2.2.2.2.2.1 bt1124.2.2.2.2.2.2.2.1 bt1124.2.2.2.2.2.2.2.2.1 bt1124.2.2.2.2.2.2.2.2.2).bind fun t1177 => (if (t1176 == t1177) = true then ((impl_LockClash.f k bt1124.1 bt1124.2.1 bt1124.2.2.1 bt1124.2.2.2.1 bt1124.2.2.2.2.1 bt1124.2.2.2.2.2.1 bt1124.2.2.2.2.2.2.1 bt1124.2.2.2.2.2.2.2.1 bt1124.2.2.2.2.2.2.2.2.1 bt1124.2.2.2.2.2.2.2.2.2).bind fun t1178 => ((impl_LockClash.f k bt1124.2.2.2.2.2.1 bt1124.2.2.2.2.2.2.1 bt1124.2.2.2.2.2.2.2.1 bt1124.2.2.2.2.2.2.2.2.1 bt1124.2.2.2.2.2.2.2.2.2 bt1124.1 bt1124.2.1 bt1124.2.2.1 bt1124.2.2.2.1 bt1124.2.2.2.2.1).bind fun t1179 => (if (t1178 == t1179) = true then (if (bt1144.2 == bt1148.2) = true then ((laws_sameLocks.f k bt1144.1 bt1148.1).bind fun t1180 => (if t1180 = true then ((impl_LiveLocks.f k bt1152.1 bt1152.2).bind fun t1181 => ((spec_LiveLocks.f k bt1152.1 bt1152.2).bind fun t1184 => ((laws_sameLocks.f k t1181 t1184).bind fun t1187 => (if t1187 = true then ((impl_TokensAt.f k bt1156.1 bt1156.2).bind fun t1188 => ((spec_TokensAt.f k bt1156.1 bt1156.2).bind fun t1191 => ((laws_sameInts.f k t1188 t1191).bind fun t1194 => (if t1194 = true then ((impl_MayTurn.f k bt1162.1 bt1162.2.1 bt1162.2.2.1 bt1162.2.2.2).bind fun t1195 => ((spec_MayTurn.f k bt1162.1 bt1162.2.1 bt1162.2.2.1 bt1162.2.2.2).bind fun t1196 => (some (t1195 == t1196)))) else (none))))) else (none))))) else (none))) else (none)) else (none)))) else (none)))) else (none)))) else (none))))))))))))))
def laws_FnLocksBent.T12 : Bool × List (List Nat × List Nat) := (true, [([], []), ([0], [0]), ([], []), ([2, 1], [2]), ([1, 3], [1, 3]), ([4, 3], [4]), ([5], [5]), ([5], [5]), ([6, 7, 5, 5], [5, 6, 7]), ([5], [5]), ([5], [5]), ([9, 10, 8, 5], [5, 9, 10]), ([8, 11, 5], [5, 8, 11]), ([5, 12], [5, 12]), ([13, 11], [13]), ([14], [14]), ([14], [14]), ([15, 16, 14, 14], [14, 15, 16]), ([14], [14]), ([14], [14]), ([18, 19, 17, 14], [14, 18, 19]), ([17, 20, 14], [14, 17, 20]), ([14, 21], [14, 21]), ([22, 20], [22]), ([23], [23]), ([23], [23]), ([24, 25, 23, 23], [23, 24, 25]), ([23], [23]), ([23], [23]), ([27, 28, 26, 23], [23, 27, 28]), ([26, 29, 23], [23, 26, 29]), ([23, 30], [23, 30]), ([31, 29], [31]), ([32], [32]), ([32], [32]), ([33, 34, 32], [32, 33, 34]), ([32, 35], [32, 35]), ([36, 32], [36]), ([37], [37]), ([37], [37]), ([38, 39, 37, 37], [37, 38, 39]), ([37, 40], [37, 40]), ([41, 40], [41]), ([42], [42]), ([42], [42]), ([43, 44, 42, 42], [42, 43, 44]), ([42], [42]), ([42], [42]), ([46, 47, 45, 42], [42, 46, 47]), ([45, 48, 48, 42], [42, 45, 48]), ([42, 49], [42, 49]), ([50, 49], [50]), ([51], [51]), ([51], [51]), ([52, 53, 51, 51], [51, 52, 53]), ([51], [51]), ([51], [51]), ([55, 56, 54, 51], [51, 55, 56]), ([54, 57, 57, 51], [51, 54, 57]), ([51, 58], [51, 58]), ([59, 58], [59]), ([60], [60]), ([60], [60]), ([60], [60]), ([60], [60]), ([61, 62, 63, 64, 60, 60], [60, 61, 62, 63, 64]), ([60], [60]), ([60], [60]), ([60], [60]), ([60], [60]), ([66, 67, 68, 69, 65, 60], [60, 66, 67, 68, 69]), ([65, 70, 60], [60, 65, 70]), ([60, 71], [60, 71]), ([72, 70, 0, 1, 2, 3, 4, 5, 6, 7, 8, 9, 10, 11, 12, 13, 14, 15, 16, 17, 18, 19, 20, 21, 22, 23, 24, 25, 26, 27, 28, 29, 30, 31, 32, 33, 34, 35, 36, 37, 38, 39, 40, 41, 42, 43, 44, 45, 46, 47, 48, 49, 50, 51, 52, 53, 54, 55, 56, 57, 58, 59, 60, 61, 62, 63, 64, 65, 66, 67, 68, 69, 70, 71, 72], [72])])
def laws_FnLocksBent.B12 : List Nat := [0, 1, 0, 7, 15, 31, 63, 63, 255, 63, 63, 2047, 4095, 8191, 16383, 32767, 32767, 131071, 32767, 32767, 1048575, 2097151, 4194303, 8388607, 16777215, 16777215, 67108863, 16777215, 16777215, 536870911, 1073741823, 2147483647, 4294967295, 8589934591, 8589934591, 34359738367, 68719476735, 137438953471, 274877906943, 274877906943, 1099511627775, 2199023255551, 4398046511103, 8796093022207, 8796093022207, 35184372088831, 8796093022207, 8796093022207, 281474976710655, 562949953421311, 1125899906842623, 2251799813685247, 4503599627370495, 4503599627370495, 18014398509481983, 4503599627370495, 4503599627370495, 144115188075855871, 288230376151711743, 576460752303423487, 1152921504606846975, 2305843009213693951, 2305843009213693951, 2305843009213693951, 2305843009213693951, 36893488147419103231, 2305843009213693951, 2305843009213693951, 2305843009213693951, 2305843009213693951, 1180591620717411303423, 2361183241434822606847, 4722366482869645213695, 9444732965739290427391]
theorem laws_FnLocksBent.tab12 : rtab .any (opsOf Try.f14 12) = laws_FnLocksBent.T12 := by kernel_rfl
theorem laws_FnLocksBent.bits12 : waitsOk laws_FnLocksBent.T12.2 laws_FnLocksBent.B12 = true := by kernel_rfl
set_option maxHeartbeats 8000000 in
set_option maxRecDepth 100000 in
theorem laws_FnLocksBent.calls (k : Nat) (A0 : Option Addr) (c0 : Nat) (l0 : List Int) (r : Bool) (w : World) (hr0 : Kd.C (Kd.int .u8) w A0 l0.length l0) (hc0 : l0.length ≤ c0) (h : laws_FnLocksBent.f k l0 = some r) :
 Calls Try.prog 14 #[.slice A0 l0.length c0] w fun e w' => e = .returned (.bool r) ∧ Below w.heap.size w w' := by
 have hu28 := Try.underlying28
 have HR0 := Aside0.mk hr0
 have HC0 := Aside0.mk hc0
 clear hr0 hc0
 have HB := A_ (Below.refl w.heap.size w)
 have H : ((laws_big.f l0).bind fun t1104 => (if t1104 = true then (some true) else ((spec_DrawLockOk.f k l0).bind fun bt1105 => ((spec_DrawCovers.f k l0).bind fun bt1113 => ((spec_DrawLockClash.f k l0).bind fun bt1124 => ((spec_DrawDropLock.f k l0).bind fun bt1140 => ((impl_DropLock.f k bt1140.1 bt1140.2).bind fun bt1144 => ((spec_DropLock.f k bt1140.1 bt1140.2).bind fun bt1148 => ((spec_DrawLiveLocks.f k l0).bind fun bt1152 => ((spec_DrawTokensAt.f k l0).bind fun bt1156 => ((spec_DrawMayTurn.f k l0).bind fun bt1162 => ((impl_LockOk.f k bt1105.1 bt1105.2.1 bt1105.2.2.1 bt1105.2.2.2.1 bt1105.2.2.2.2).bind fun t1172 => ((spec_LockOk.f k bt1105.1 bt1105.2.1 bt1105.2.2.1 bt1105.2.2.2.1 bt1105.2.2.2.2).bind fun t1173 => (if (t1172 == t1173) = true then ((impl_Covers.f k bt1113.1 bt1113.2.1 bt1113.2.2.1 bt1113.2.2.2.1 bt1113.2.2.2.2.1 bt1113.2.2.2.2.2).bind fun t1174 => ((spec_Covers.f k bt1113.1 bt1113.2.1 bt1113.2.2.1 bt1113.2.2.2.1 bt1113.2.2.2.2.1 bt1113.2.2.2.2.2).bind fun t1175 => (if (t1174 == t1175) = true then ((impl_LockClash.f k bt1124.1 bt1124.2.1 bt1124.2.2.1 bt1124.2.2.2.1 bt1124.2.2.2.2.1 bt1124.2.2.2.2.2.1 bt1124.2.2.2.2.2.2.1 bt1124.2.2.2.2.2.2.2.1 bt1124.2.2.2.2.2.2.2.2.1 bt1124.2.2.2.2.2.2.2.2.2).bind fun t1176 => ((spec_LockClash.f k bt1124.1 bt1124.2.1 bt1124.2.2.1 bt1124.2.2.2.1 bt1124.2.2.2.2.1 bt1124.2.2.2.2.2.1 bt1124.2.2.2.2.2.2.1 bt1124.2.2.2.2.2.2.2.1 bt1124.2.2.2.2.2.2.2.2.1 bt1124.2.2.2.2.2.2.2.2.2).bind fun t1177 => (if (t1176 == t1177) = true then ((impl_LockClash.f k bt1124.1 bt1124.2.1 bt1124.2.2.1 bt1124.2.2.2.1 bt1124.2.2.2.2.1 bt1124.2.2.2.2.2.1 bt1124.2.2.2.2.2.2.1 bt1124.2.2.2.2.2.2.2.1 bt1124.2.2.2.2.2.2.2.2.1 bt1124.2.2.2.2.2.2.2.2.2).bind fun t1178 => ((impl_LockClash.f k bt1124.2.2.2.2.2.1 bt1124.2.2.2.2.2.2.1 bt1124.2.2.2.2.2.2.2.1 bt1124.2.2.2.2.2.2.2.2.1 bt1124.2.2.2.2.2.2.2.2.2 bt1124.1 bt1124.2.1 bt1124.2.2.1 bt1124.2.2.2.1 bt1124.2.2.2.2.1).bind fun t1179 => (if (t1178 == t1179) = true then (if (bt1144.2 == bt1148.2) = true then ((laws_sameLocks.f k bt1144.1 bt1148.1).bind fun t1180 => (if t1180 = true then ((impl_LiveLocks.f k bt1152.1 bt1152.2).bind fun t1181 => ((spec_LiveLocks.f k bt1152.1 bt1152.2).bind fun t1184 => ((laws_sameLocks.f k t1181 t1184).bind fun t1187 => (if t1187 = true then ((impl_TokensAt.f k bt1156.1 bt1156.2).bind fun t1188 => ((spec_TokensAt.f k bt1156.1 bt1156.2).bind fun t1191 => ((laws_sameInts.f k t1188 t1191).bind fun t1194 => (if t1194 = true then ((impl_MayTurn.f k bt1162.1 bt1162.2.1 bt1162.2.2.1 bt1162.2.2.2).bind fun t1195 => ((spec_MayTurn.f k bt1162.1 bt1162.2.1 bt1162.2.2.1 bt1162.2.2.2).bind fun t1196 => (some (t1195 == t1196)))) else (none))))) else (none))))) else (none))) else (none)) else (none)))) else (none)))) else (none)))) else (none))))))))))))))) = some r := h
 clear h
 obtain ⟨t1104, A2, H⟩ := bo_ H
 (try dsimp only at H)
 by_cases c3 : t1104 = true
 · subst c3
   rw [if_pos rfl] at H
   obtain rfl := Option.some.inj H
   go_enter Try.func14, Try.ntmps14
   go_wp2_with (first | ((with_reducible refine gate_callee (f := 50) rfl ?_); refine gL_ (some 23) Try.func50 #[.slice A0 l0.length c0] ?_; (with_reducible refine (laws_big.calls _ _ l0 true _ ?s1 ?s2 A2.out).mono ?_); (case s1 => exact cC_ HR0.out); (case s2 => exact HC0.out); rintro e w' ⟨rfl, ⟨nd, rfl⟩⟩; refine ⟨_, rfl, ?_⟩))
   go_ret
   exact ⟨rr_, bB_⟩
 · replace c3 := Bool.eq_false_iff.mpr c3
   subst c3
   rw [if_neg nf_] at H
   obtain ⟨⟨t1105, t1106, t1109, t1110, t1111⟩, A4, H⟩ := bo_ H
   (try dsimp only at H)
   obtain ⟨⟨t1113, t1114, t1117, t1118, t1119, t1120⟩, A5, H⟩ := bo_ H
   (try dsimp only at H)
   obtain ⟨⟨t1124, t1125, t1128, t1129, t1130, t1131, t1132, t1135, t1136, t1137⟩, A6, H⟩ := bo_ H
   (try dsimp only at H)
   obtain ⟨⟨t1140, t1141⟩, A7, H⟩ := bo_ H
   (try dsimp only at H)
   obtain ⟨⟨t1144, t1147⟩, A8, H⟩ := bo_ H
   (try dsimp only at H)
   obtain ⟨⟨t1148, t1151⟩, A9, H⟩ := bo_ H
   (try dsimp only at H)
   obtain ⟨⟨t1152, t1153⟩, A10, H⟩ := bo_ H
   (try dsimp only at H)
   obtain ⟨⟨t1156, t1157⟩, A11, H⟩ := bo_ H
   (try dsimp only at H)
   obtain ⟨⟨t1162, t1163, t1164, t1165⟩, A12, H⟩ := bo_ H
   (try dsimp only at H)
   obtain ⟨t1172, A13, H⟩ := bo_ H
   (try dsimp only at H)
   obtain ⟨t1173, A14, H⟩ := bo_ H
   (try dsimp only at H)
   by_cases c15 : (t1172 == t1173) = true
   rotate_left
   · rw [if_neg c15] at H
     have c15b0 : (t1172 == t1173) = false := by simpa using c15
     (try (have c15b1 : decide (t1172 = t1173) = false := by simpa using c15))
     (try (have c15b2 : (t1172 == t1173) = false := by simpa using c15))
     (try (have c15b3 : ¬ (t1172 = t1173) := by simpa using c15))
     clear c15
     exact absurd H (by simp)
   rw [if_pos c15] at H
   have c15b0 : (t1172 == t1173) = true := c15
   (try (have c15b1 : decide (t1172 = t1173) = true := by simpa using c15))
   (try (have c15b2 : (t1172 == t1173) = true := by simpa using c15))
   clear c15
   obtain ⟨t1174, A16, H⟩ := bo_ H
   (try dsimp only at H)
   obtain ⟨t1175, A17, H⟩ := bo_ H
   (try dsimp only at H)
   by_cases c18 : (t1174 == t1175) = true
   rotate_left
   · rw [if_neg c18] at H
     have c18b0 : (t1174 == t1175) = false := by simpa using c18
     (try (have c18b1 : decide (t1174 = t1175) = false := by simpa using c18))
     (try (have c18b2 : (t1174 == t1175) = false := by simpa using c18))
     (try (have c18b3 : ¬ (t1174 = t1175) := by simpa using c18))
     clear c18
     exact absurd H (by simp)
   rw [if_pos c18] at H
   have c18b0 : (t1174 == t1175) = true := c18
   (try (have c18b1 : decide (t1174 = t1175) = true := by simpa using c18))
   (try (have c18b2 : (t1174 == t1175) = true := by simpa using c18))
   clear c18
   obtain ⟨t1176, A19, H⟩ := bo_ H
   (try dsimp only at H)
   obtain ⟨t1177, A20, H⟩ := bo_ H
   (try dsimp only at H)
   by_cases c21 : (t1176 == t1177) = true
   rotate_left
   · rw [if_neg c21] at H
     have c21b0 : (t1176 == t1177) = false := by simpa using c21
     (try (have c21b1 : decide (t1176 = t1177) = false := by simpa using c21))
     (try (have c21b2 : (t1176 == t1177) = false := by simpa using c21))
     (try (have c21b3 : ¬ (t1176 = t1177) := by simpa using c21))
     clear c21
     exact absurd H (by simp)
   rw [if_pos c21] at H
   have c21b0 : (t1176 == t1177) = true := c21
   (try (have c21b1 : decide (t1176 = t1177) = true := by simpa using c21))
   (try (have c21b2 : (t1176 == t1177) = true := by simpa using c21))
   clear c21
   obtain ⟨t1178, A22, H⟩ := bo_ H
   (try dsimp only at H)
   obtain ⟨t1179, A23, H⟩ := bo_ H
   (try dsimp only at H)
   by_cases c24 : (t1178 == t1179) = true
   rotate_left
   · rw [if_neg c24] at H
     have c24b0 : (t1178 == t1179) = false := by simpa using c24
     (try (have c24b1 : decide (t1178 = t1179) = false := by simpa using c24))
     (try (have c24b2 : (t1178 == t1179) = false := by simpa using c24))
     (try (have c24b3 : ¬ (t1178 = t1179) := by simpa using c24))
     clear c24
     exact absurd H (by simp)
   rw [if_pos c24] at H
   have c24b0 : (t1178 == t1179) = true := c24
   (try (have c24b1 : decide (t1178 = t1179) = true := by simpa using c24))
   (try (have c24b2 : (t1178 == t1179) = true := by simpa using c24))
   clear c24
   by_cases c25 : (t1147 == t1151) = true
   rotate_left
   · rw [if_neg c25] at H
     have c25b0 : (t1147 == t1151) = false := by simpa using c25
     (try (have c25b1 : decide (t1147 = t1151) = false := by simpa using c25))
     (try (have c25b2 : (t1147 == t1151) = false := by simpa using c25))
     (try (have c25b3 : ¬ (t1147 = t1151) := by simpa using c25))
     clear c25
     exact absurd H (by simp)
   rw [if_pos c25] at H
   have c25b0 : (t1147 == t1151) = true := c25
   (try (have c25b1 : decide (t1147 = t1151) = true := by simpa using c25))
   (try (have c25b2 : (t1147 == t1151) = true := by simpa using c25))
   clear c25
   obtain ⟨t1180, A26, H⟩ := bo_ H
   (try dsimp only at H)
   by_cases c27 : t1180 = true
   · subst c27
     rw [if_pos rfl] at H
     obtain ⟨t1181, A28, H⟩ := bo_ H
     (try dsimp only at H)
     obtain ⟨t1184, A29, H⟩ := bo_ H
     (try dsimp only at H)
     obtain ⟨t1187, A30, H⟩ := bo_ H
     (try dsimp only at H)
     by_cases c31 : t1187 = true
     · subst c31
       rw [if_pos rfl] at H
       obtain ⟨t1188, A32, H⟩ := bo_ H
       (try dsimp only at H)
       obtain ⟨t1191, A33, H⟩ := bo_ H
       (try dsimp only at H)
       obtain ⟨t1194, A34, H⟩ := bo_ H
       (try dsimp only at H)
       by_cases c35 : t1194 = true
       · subst c35
         rw [if_pos rfl] at H
         obtain ⟨t1195, A36, H⟩ := bo_ H
         (try dsimp only at H)
         obtain ⟨t1196, A37, H⟩ := bo_ H
         (try dsimp only at H)
         obtain rfl := Option.some.inj H
         go_enter Try.func14, Try.ntmps14
         try go_wp2_with (first | ((with_reducible refine gate_callee (f := 50) rfl ?_); refine gL_ (some 23) Try.func50 #[.slice A0 l0.length c0] ?_; (with_reducible refine (laws_big.calls _ _ l0 false _ ?s1 ?s2 A2.out).mono ?_); (case s1 => exact cC_ HR0.out); (case s2 => exact HC0.out); rintro e w' ⟨rfl, ⟨nd, rfl⟩⟩; refine ⟨_, rfl, ?_⟩) | ((with_reducible refine gate_callee (f := 55) rfl ?_); refine gL_ (some 25) Try.func55 #[.slice A0 l0.length c0] ?_; (with_reducible refine (spec_DrawLockOk.calls k _ _ l0 t1105 t1106 t1109 t1110 t1111 _ ?s1 ?s2 A4.out).mono ?_); (case s1 => exact cC_ HR0.out); (case s2 => exact HC0.out); rintro e w38 ⟨v1107, rfl, ho0, hb⟩; refine ⟨_, rfl, ?_⟩; have HO1108 := A_ (Kd.R_lower ho0 (below_size bB_)); replace HB := A_ (below_step bB_ hb); (try clear hb); (try clear ho0)) | ((with_reducible refine gate_dst (N := 3) rfl ?_); refine bx_ (N := 3) (cs := #[.int .i64 0, .slice none 0 0, .bool false, .bool false, .int .i64 0]) (t := 28) ?_; intro gb1112 hg w39 hbox hb; replace HO1108 := A_ (Kd.R_below (vR_ HO1108.out) hb); have BK1112 := A_ (hbox); have GW1112 := A_ (ge_ hg bB_ : w.heap.size ≤ gb1112); have GE1112 := A_ (ge_ hg bB_ : w.heap.size ≤ gb1112); replace HB := A_ (below_step bB_ hb); clear hb hbox hg; obtain ⟨hcz40_0, hcz40_1, hcz40_2, hcz40_3, hcz40_4, hfz40_0, hfz40_1, hfz40_2, hfz40_3, hfz40_4⟩ := cz5_ BK1112.out; obtain ⟨Ao41, co41, eo41⟩ := Kd.R_slice HO1108.out; subst eo41) | ((with_reducible refine gate_callee (f := 56) rfl ?_); refine gL_ (some 28) Try.func56 #[.slice A0 l0.length c0] ?_; (with_reducible refine (spec_DrawCovers.calls k _ _ l0 t1113 t1114 t1117 t1118 t1119 t1120 _ ?s1 ?s2 A5.out).mono ?_); (case s1 => exact Kd.C_below HR0.out (bG_ GE1112.out)); (case s2 => exact HC0.out); rintro e w42 ⟨v1115, v1121, rfl, ho0, ho1, hb⟩; refine ⟨_, rfl, ?_⟩; have HO1116 := A_ (Kd.R_lower (Kd.R_new' ho0 (Kd.R_lt (by (with_reducible repeat (first | apply Kd.R_alloc | apply Kd.R_drewN | apply Kd.R_drew)); exact (Kd.R_mono (Kd.R_far (p := ⟨gb1112, 4, none⟩) (Kd.R_far (p := ⟨gb1112, 3, none⟩) (Kd.R_far (p := ⟨gb1112, 2, none⟩) (Kd.R_far (p := ⟨gb1112, 1, none⟩) (Kd.R_far (p := ⟨gb1112, 0, none⟩) (Kd.R_types HO1108.out BK1112.out (by decide)) (fun _ hk => hk.2) (.int .i64 t1105)) (fun _ hk => hk.2) (.slice Ao41 t1106.length co41)) (fun _ hk => hk.2) (.bool t1109)) (fun _ hk => hk.2) (.bool t1110)) (fun _ hk => hk.2) (.int .i64 t1111)) (fun _ h_ => h_.1))))) (below_size (bG_ GE1112.out))); have HO1122 := A_ (Kd.R_lower (Kd.R_new' ho1 (Kd.R_lt (by (with_reducible repeat (first | apply Kd.R_alloc | apply Kd.R_drewN | apply Kd.R_drew)); exact (Kd.R_mono (Kd.R_far (p := ⟨gb1112, 4, none⟩) (Kd.R_far (p := ⟨gb1112, 3, none⟩) (Kd.R_far (p := ⟨gb1112, 2, none⟩) (Kd.R_far (p := ⟨gb1112, 1, none⟩) (Kd.R_far (p := ⟨gb1112, 0, none⟩) (Kd.R_types HO1108.out BK1112.out (by decide)) (fun _ hk => hk.2) (.int .i64 t1105)) (fun _ hk => hk.2) (.slice Ao41 t1106.length co41)) (fun _ hk => hk.2) (.bool t1109)) (fun _ hk => hk.2) (.bool t1110)) (fun _ hk => hk.2) (.int .i64 t1111)) (fun _ h_ => h_.1))))) (below_size (bG_ GE1112.out))); replace HO1108 := A_ (Kd.R_mono (Kd.R_told (Kd.R_told (Kd.R_old (by (with_reducible repeat (first | apply Kd.R_alloc | apply Kd.R_drewN | apply Kd.R_drew)); exact (Kd.R_mono (Kd.R_far (p := ⟨gb1112, 4, none⟩) (Kd.R_far (p := ⟨gb1112, 3, none⟩) (Kd.R_far (p := ⟨gb1112, 2, none⟩) (Kd.R_far (p := ⟨gb1112, 1, none⟩) (Kd.R_far (p := ⟨gb1112, 0, none⟩) (Kd.R_types HO1108.out BK1112.out (by decide)) (fun _ hk => hk.2) (.int .i64 t1105)) (fun _ hk => hk.2) (.slice Ao41 t1106.length co41)) (fun _ hk => hk.2) (.bool t1109)) (fun _ hk => hk.2) (.bool t1110)) (fun _ hk => hk.2) (.int .i64 t1111)) (fun _ h_ => h_.1))) hb) (kb_ ho0)) (kb_ ho1)) (fun _ h_ => h_.1)); replace BK1112 := A_ (blk_below (g := gb1112) (o := .cells #[.int .i64 t1105, .slice Ao41 t1106.length co41, .bool t1109, .bool t1110, .int .i64 t1111] 28 (0, 0)) (by (with_reducible repeat (first | refine blk_drewN ?_ _ | refine blk_drew ?_ | refine blk_alloc ?_ _)); refine blk_put (cs := #[.int .i64 t1105, .slice Ao41 t1106.length co41, .bool t1109, .bool t1110, .int .i64 0]) ?_ 4 _ rfl; (with_reducible repeat (first | refine blk_drewN ?_ _ | refine blk_drew ?_ | refine blk_alloc ?_ _)); refine blk_put (cs := #[.int .i64 t1105, .slice Ao41 t1106.length co41, .bool t1109, .bool false, .int .i64 0]) ?_ 3 _ rfl; (with_reducible repeat (first | refine blk_drewN ?_ _ | refine blk_drew ?_ | refine blk_alloc ?_ _)); refine blk_put (cs := #[.int .i64 t1105, .slice Ao41 t1106.length co41, .bool false, .bool false, .int .i64 0]) ?_ 2 _ rfl; (with_reducible repeat (first | refine blk_drewN ?_ _ | refine blk_drew ?_ | refine blk_alloc ?_ _)); refine blk_put (cs := #[.int .i64 t1105, .slice none 0 0, .bool false, .bool false, .int .i64 0]) ?_ 1 _ rfl; (with_reducible repeat (first | refine blk_drewN ?_ _ | refine blk_drew ?_ | refine blk_alloc ?_ _)); refine blk_put (cs := #[.int .i64 0, .slice none 0 0, .bool false, .bool false, .int .i64 0]) ?_ 0 _ rfl; (with_reducible repeat (first | refine blk_drewN ?_ _ | refine blk_drew ?_ | refine blk_alloc ?_ _)); exact BK1112.out) hb); replace HB := A_ (below_step (bG_ GE1112.out) hb); (try clear hb); (try clear ho0); (try clear ho1)) | ((with_reducible refine gate_dst (N := 4) rfl ?_); refine bx_ (N := 4) (cs := #[.int .i64 0, .slice none 0 0, .bool false, .bool false, .int .i64 0]) (t := 28) ?_; intro gb1123 hg w43 hbox hb; replace HO1108 := A_ (Kd.R_below (vR_ HO1108.out) hb); replace HO1116 := A_ (Kd.R_below (vR_ HO1116.out) hb); replace HO1122 := A_ (Kd.R_below (vR_ HO1122.out) hb); have BK1123 := A_ (hbox); have GW1123 := A_ (ge_ hg (bG_ GE1112.out) : w.heap.size ≤ gb1123); have GE1123 := A_ (ge_ hg (bG_ GE1112.out) : w.heap.size ≤ gb1123); replace HB := A_ (below_step (bG_ GE1112.out) hb); have NB1112_1123 := A_ (gm_ hg BK1112.out); have NB1123_1112 := A_ (gn_ hg BK1112.out); replace BK1112 := A_ (bw_ BK1112.out hb); clear hb hbox hg; have hnb44 := NB1123_1112.out; have hnc44 := NB1112_1123.out; obtain ⟨hcz45_0, hcz45_1, hcz45_2, hcz45_3, hcz45_4, hfz45_0, hfz45_1, hfz45_2, hfz45_3, hfz45_4⟩ := cz5_ BK1123.out; obtain ⟨Ao46, co46, eo46⟩ := Kd.R_slice HO1116.out; subst eo46) | ((with_reducible refine gate_callee (f := 57) rfl ?_); refine gL_ (some 33) Try.func57 #[.slice A0 l0.length c0] ?_; (with_reducible refine (spec_DrawLockClash.calls k _ _ l0 t1124 t1125 t1128 t1129 t1130 t1131 t1132 t1135 t1136 t1137 _ ?s1 ?s2 A6.out).mono ?_); (case s1 => exact Kd.C_below HR0.out (by repeat (first | (with_reducible first | exact HB.out | apply below_alloc | apply pw_below_drewN | apply below_drew1 | refine below_set ?_ GE1112.out | refine below_set ?_ GE1123.out) | exact HB.out))); (case s2 => exact HC0.out); rintro e w47 ⟨v1126, v1133, rfl, ho0, ho1, hb⟩; refine ⟨_, rfl, ?_⟩; have HO1127 := A_ (Kd.R_lower (Kd.R_new' (Kd.R_new' (Kd.R_new' ho0 (Kd.R_lt (by (with_reducible repeat (first | apply Kd.R_alloc | apply Kd.R_drewN | apply Kd.R_drew)); exact (Kd.R_mono (Kd.R_far (p := ⟨gb1123, 4, none⟩) (Kd.R_far (p := ⟨gb1123, 3, none⟩) (Kd.R_far (p := ⟨gb1123, 2, none⟩) (Kd.R_far (p := ⟨gb1123, 1, none⟩) (Kd.R_far (p := ⟨gb1123, 0, none⟩) (Kd.R_types HO1108.out BK1123.out (by decide)) (fun _ hk => hk.2) (.int .i64 t1113)) (fun _ hk => hk.2) (.slice Ao46 t1114.length co46)) (fun _ hk => hk.2) (.bool t1117)) (fun _ hk => hk.2) (.bool t1118)) (fun _ hk => hk.2) (.int .i64 t1119)) (fun _ h_ => h_.1))))) (Kd.R_lt (by (with_reducible repeat (first | apply Kd.R_alloc | apply Kd.R_drewN | apply Kd.R_drew)); exact (Kd.R_mono (Kd.R_far (p := ⟨gb1123, 4, none⟩) (Kd.R_far (p := ⟨gb1123, 3, none⟩) (Kd.R_far (p := ⟨gb1123, 2, none⟩) (Kd.R_far (p := ⟨gb1123, 1, none⟩) (Kd.R_far (p := ⟨gb1123, 0, none⟩) (Kd.R_types HO1116.out BK1123.out (by decide)) (fun _ hk => hk.2) (.int .i64 t1113)) (fun _ hk => hk.2) (.slice Ao46 t1114.length co46)) (fun _ hk => hk.2) (.bool t1117)) (fun _ hk => hk.2) (.bool t1118)) (fun _ hk => hk.2) (.int .i64 t1119)) (fun _ h_ => h_.1))))) (Kd.R_lt (by (with_reducible repeat (first | apply Kd.R_alloc | apply Kd.R_drewN | apply Kd.R_drew)); exact (Kd.R_mono (Kd.R_far (p := ⟨gb1123, 4, none⟩) (Kd.R_far (p := ⟨gb1123, 3, none⟩) (Kd.R_far (p := ⟨gb1123, 2, none⟩) (Kd.R_far (p := ⟨gb1123, 1, none⟩) (Kd.R_far (p := ⟨gb1123, 0, none⟩) (Kd.R_types HO1122.out BK1123.out (by decide)) (fun _ hk => hk.2) (.int .i64 t1113)) (fun _ hk => hk.2) (.slice Ao46 t1114.length co46)) (fun _ hk => hk.2) (.bool t1117)) (fun _ hk => hk.2) (.bool t1118)) (fun _ hk => hk.2) (.int .i64 t1119)) (fun _ h_ => h_.1))))) (below_size (by repeat (first | (with_reducible first | exact HB.out | apply below_alloc | apply pw_below_drewN | apply below_drew1 | refine below_set ?_ GE1112.out | refine below_set ?_ GE1123.out) | exact HB.out)))); have HO1134 := A_ (Kd.R_lower (Kd.R_new' (Kd.R_new' (Kd.R_new' ho1 (Kd.R_lt (by (with_reducible repeat (first | apply Kd.R_alloc | apply Kd.R_drewN | apply Kd.R_drew)); exact (Kd.R_mono (Kd.R_far (p := ⟨gb1123, 4, none⟩) (Kd.R_far (p := ⟨gb1123, 3, none⟩) (Kd.R_far (p := ⟨gb1123, 2, none⟩) (Kd.R_far (p := ⟨gb1123, 1, none⟩) (Kd.R_far (p := ⟨gb1123, 0, none⟩) (Kd.R_types HO1108.out BK1123.out (by decide)) (fun _ hk => hk.2) (.int .i64 t1113)) (fun _ hk => hk.2) (.slice Ao46 t1114.length co46)) (fun _ hk => hk.2) (.bool t1117)) (fun _ hk => hk.2) (.bool t1118)) (fun _ hk => hk.2) (.int .i64 t1119)) (fun _ h_ => h_.1))))) (Kd.R_lt (by (with_reducible repeat (first | apply Kd.R_alloc | apply Kd.R_drewN | apply Kd.R_drew)); exact (Kd.R_mono (Kd.R_far (p := ⟨gb1123, 4, none⟩) (Kd.R_far (p := ⟨gb1123, 3, none⟩) (Kd.R_far (p := ⟨gb1123, 2, none⟩) (Kd.R_far (p := ⟨gb1123, 1, none⟩) (Kd.R_far (p := ⟨gb1123, 0, none⟩) (Kd.R_types HO1116.out BK1123.out (by decide)) (fun _ hk => hk.2) (.int .i64 t1113)) (fun _ hk => hk.2) (.slice Ao46 t1114.length co46)) (fun _ hk => hk.2) (.bool t1117)) (fun _ hk => hk.2) (.bool t1118)) (fun _ hk => hk.2) (.int .i64 t1119)) (fun _ h_ => h_.1))))) (Kd.R_lt (by (with_reducible repeat (first | apply Kd.R_alloc | apply Kd.R_drewN | apply Kd.R_drew)); exact (Kd.R_mono (Kd.R_far (p := ⟨gb1123, 4, none⟩) (Kd.R_far (p := ⟨gb1123, 3, none⟩) (Kd.R_far (p := ⟨gb1123, 2, none⟩) (Kd.R_far (p := ⟨gb1123, 1, none⟩) (Kd.R_far (p := ⟨gb1123, 0, none⟩) (Kd.R_types HO1122.out BK1123.out (by decide)) (fun _ hk => hk.2) (.int .i64 t1113)) (fun _ hk => hk.2) (.slice Ao46 t1114.length co46)) (fun _ hk => hk.2) (.bool t1117)) (fun _ hk => hk.2) (.bool t1118)) (fun _ hk => hk.2) (.int .i64 t1119)) (fun _ h_ => h_.1))))) (below_size (by repeat (first | (with_reducible first | exact HB.out | apply below_alloc | apply pw_below_drewN | apply below_drew1 | refine below_set ?_ GE1112.out | refine below_set ?_ GE1123.out) | exact HB.out)))); replace HO1108 := A_ (Kd.R_mono (Kd.R_told (Kd.R_told (Kd.R_old (by (with_reducible repeat (first | apply Kd.R_alloc | apply Kd.R_drewN | apply Kd.R_drew)); exact (Kd.R_mono (Kd.R_far (p := ⟨gb1123, 4, none⟩) (Kd.R_far (p := ⟨gb1123, 3, none⟩) (Kd.R_far (p := ⟨gb1123, 2, none⟩) (Kd.R_far (p := ⟨gb1123, 1, none⟩) (Kd.R_far (p := ⟨gb1123, 0, none⟩) (Kd.R_types HO1108.out BK1123.out (by decide)) (fun _ hk => hk.2) (.int .i64 t1113)) (fun _ hk => hk.2) (.slice Ao46 t1114.length co46)) (fun _ hk => hk.2) (.bool t1117)) (fun _ hk => hk.2) (.bool t1118)) (fun _ hk => hk.2) (.int .i64 t1119)) (fun _ h_ => h_.1))) hb) (kb_ ho0)) (kb_ ho1)) (fun _ h_ => h_.1)); replace HO1116 := A_ (Kd.R_mono (Kd.R_told (Kd.R_told (Kd.R_old (by (with_reducible repeat (first | apply Kd.R_alloc | apply Kd.R_drewN | apply Kd.R_drew)); exact (Kd.R_mono (Kd.R_far (p := ⟨gb1123, 4, none⟩) (Kd.R_far (p := ⟨gb1123, 3, none⟩) (Kd.R_far (p := ⟨gb1123, 2, none⟩) (Kd.R_far (p := ⟨gb1123, 1, none⟩) (Kd.R_far (p := ⟨gb1123, 0, none⟩) (Kd.R_types HO1116.out BK1123.out (by decide)) (fun _ hk => hk.2) (.int .i64 t1113)) (fun _ hk => hk.2) (.slice Ao46 t1114.length co46)) (fun _ hk => hk.2) (.bool t1117)) (fun _ hk => hk.2) (.bool t1118)) (fun _ hk => hk.2) (.int .i64 t1119)) (fun _ h_ => h_.1))) hb) (kb_ ho0)) (kb_ ho1)) (fun _ h_ => h_.1)); replace HO1122 := A_ (Kd.R_mono (Kd.R_told (Kd.R_told (Kd.R_old (by (with_reducible repeat (first | apply Kd.R_alloc | apply Kd.R_drewN | apply Kd.R_drew)); exact (Kd.R_mono (Kd.R_far (p := ⟨gb1123, 4, none⟩) (Kd.R_far (p := ⟨gb1123, 3, none⟩) (Kd.R_far (p := ⟨gb1123, 2, none⟩) (Kd.R_far (p := ⟨gb1123, 1, none⟩) (Kd.R_far (p := ⟨gb1123, 0, none⟩) (Kd.R_types HO1122.out BK1123.out (by decide)) (fun _ hk => hk.2) (.int .i64 t1113)) (fun _ hk => hk.2) (.slice Ao46 t1114.length co46)) (fun _ hk => hk.2) (.bool t1117)) (fun _ hk => hk.2) (.bool t1118)) (fun _ hk => hk.2) (.int .i64 t1119)) (fun _ h_ => h_.1))) hb) (kb_ ho0)) (kb_ ho1)) (fun _ h_ => h_.1)); replace BK1112 := A_ (blk_below (g := gb1112) (o := .cells #[.int .i64 t1105, .slice Ao41 t1106.length co41, .bool t1109, .bool t1110, .int .i64 t1111] 28 (0, 0)) (by (with_reducible repeat (first | refine blk_drewN ?_ _ | refine blk_drew ?_ | refine blk_alloc ?_ _)); refine blk_far ?_ NB1112_1123.out _; (with_reducible repeat (first | refine blk_drewN ?_ _ | refine blk_drew ?_ | refine blk_alloc ?_ _)); refine blk_far ?_ NB1112_1123.out _; (with_reducible repeat (first | refine blk_drewN ?_ _ | refine blk_drew ?_ | refine blk_alloc ?_ _)); refine blk_far ?_ NB1112_1123.out _; (with_reducible repeat (first | refine blk_drewN ?_ _ | refine blk_drew ?_ | refine blk_alloc ?_ _)); refine blk_far ?_ NB1112_1123.out _; (with_reducible repeat (first | refine blk_drewN ?_ _ | refine blk_drew ?_ | refine blk_alloc ?_ _)); refine blk_far ?_ NB1112_1123.out _; (with_reducible repeat (first | refine blk_drewN ?_ _ | refine blk_drew ?_ | refine blk_alloc ?_ _)); exact BK1112.out) hb); replace BK1123 := A_ (blk_below (g := gb1123) (o := .cells #[.int .i64 t1113, .slice Ao46 t1114.length co46, .bool t1117, .bool t1118, .int .i64 t1119] 28 (0, 0)) (by (with_reducible repeat (first | refine blk_drewN ?_ _ | refine blk_drew ?_ | refine blk_alloc ?_ _)); refine blk_put (cs := #[.int .i64 t1113, .slice Ao46 t1114.length co46, .bool t1117, .bool t1118, .int .i64 0]) ?_ 4 _ rfl; (with_reducible repeat (first | refine blk_drewN ?_ _ | refine blk_drew ?_ | refine blk_alloc ?_ _)); refine blk_put (cs := #[.int .i64 t1113, .slice Ao46 t1114.length co46, .bool t1117, .bool false, .int .i64 0]) ?_ 3 _ rfl; (with_reducible repeat (first | refine blk_drewN ?_ _ | refine blk_drew ?_ | refine blk_alloc ?_ _)); refine blk_put (cs := #[.int .i64 t1113, .slice Ao46 t1114.length co46, .bool false, .bool false, .int .i64 0]) ?_ 2 _ rfl; (with_reducible repeat (first | refine blk_drewN ?_ _ | refine blk_drew ?_ | refine blk_alloc ?_ _)); refine blk_put (cs := #[.int .i64 t1113, .slice none 0 0, .bool false, .bool false, .int .i64 0]) ?_ 1 _ rfl; (with_reducible repeat (first | refine blk_drewN ?_ _ | refine blk_drew ?_ | refine blk_alloc ?_ _)); refine blk_put (cs := #[.int .i64 0, .slice none 0 0, .bool false, .bool false, .int .i64 0]) ?_ 0 _ rfl; (with_reducible repeat (first | refine blk_drewN ?_ _ | refine blk_drew ?_ | refine blk_alloc ?_ _)); exact BK1123.out) hb); replace HB := A_ (below_step (by repeat (first | (with_reducible first | exact HB.out | apply below_alloc | apply pw_below_drewN | apply below_drew1 | refine below_set ?_ GE1112.out | refine below_set ?_ GE1123.out) | exact HB.out)) hb); (try clear hb); (try clear ho0); (try clear ho1)) | ((with_reducible refine gate_dst (N := 6) rfl ?_); refine bx_ (N := 6) (cs := #[.int .i64 0, .slice none 0 0, .bool false, .bool false, .int .i64 0]) (t := 28) ?_; intro gb1138 hg w48 hbox hb; replace HO1108 := A_ (Kd.R_below (vR_ HO1108.out) hb); replace HO1116 := A_ (Kd.R_below (vR_ HO1116.out) hb); replace HO1122 := A_ (Kd.R_below (vR_ HO1122.out) hb); replace HO1127 := A_ (Kd.R_below (vR_ HO1127.out) hb); replace HO1134 := A_ (Kd.R_below (vR_ HO1134.out) hb); have BK1138 := A_ (hbox); have GW1138 := A_ ((by rw [hg]; exact (below_size (by repeat (first | (with_reducible first | exact HB.out | apply below_alloc | apply pw_below_drewN | apply below_drew1 | refine below_set ?_ GE1112.out | refine below_set ?_ GE1123.out) | exact HB.out))) : w.heap.size ≤ gb1138)); have GE1138 := A_ ((by rw [hg]; exact (below_size (by repeat (first | (with_reducible first | exact HB.out | apply below_alloc | apply pw_below_drewN | apply below_drew1 | refine below_set ?_ GE1112.out | refine below_set ?_ GE1123.out) | exact HB.out))) : w.heap.size ≤ gb1138)); replace HB := A_ (below_step (by repeat (first | (with_reducible first | exact HB.out | apply below_alloc | apply pw_below_drewN | apply below_drew1 | refine below_set ?_ GE1112.out | refine below_set ?_ GE1123.out) | exact HB.out)) hb); have NB1112_1138 := A_ (gm_ hg BK1112.out); have NB1138_1112 := A_ (gn_ hg BK1112.out); replace BK1112 := A_ (bw_ BK1112.out hb); have NB1123_1138 := A_ (gm_ hg BK1123.out); have NB1138_1123 := A_ (gn_ hg BK1123.out); replace BK1123 := A_ (bw_ BK1123.out hb); clear hb hbox hg) | ((with_reducible refine gate_dst (N := 7) rfl ?_); refine bx_ (N := 7) (cs := #[.int .i64 0, .slice none 0 0, .bool false, .bool false, .int .i64 0]) (t := 28) ?_; intro gb1139 hg w49 hbox hb; replace HO1108 := A_ (Kd.R_below (vR_ HO1108.out) hb); replace HO1116 := A_ (Kd.R_below (vR_ HO1116.out) hb); replace HO1122 := A_ (Kd.R_below (vR_ HO1122.out) hb); replace HO1127 := A_ (Kd.R_below (vR_ HO1127.out) hb); replace HO1134 := A_ (Kd.R_below (vR_ HO1134.out) hb); have BK1139 := A_ (hbox); have GW1139 := A_ ((by rw [hg]; exact (below_size (by repeat (first | (with_reducible first | exact HB.out | apply below_alloc | apply pw_below_drewN | apply below_drew1 | refine below_set ?_ GE1112.out | refine below_set ?_ GE1123.out | refine below_set ?_ GE1138.out) | exact HB.out))) : w.heap.size ≤ gb1139)); have GE1139 := A_ ((by rw [hg]; exact (below_size (by repeat (first | (with_reducible first | exact HB.out | apply below_alloc | apply pw_below_drewN | apply below_drew1 | refine below_set ?_ GE1112.out | refine below_set ?_ GE1123.out | refine below_set ?_ GE1138.out) | exact HB.out))) : w.heap.size ≤ gb1139)); replace HB := A_ (below_step (by repeat (first | (with_reducible first | exact HB.out | apply below_alloc | apply pw_below_drewN | apply below_drew1 | refine below_set ?_ GE1112.out | refine below_set ?_ GE1123.out | refine below_set ?_ GE1138.out) | exact HB.out)) hb); have NB1112_1139 := A_ (gm_ hg BK1112.out); have NB1139_1112 := A_ (gn_ hg BK1112.out); replace BK1112 := A_ (bw_ BK1112.out hb); have NB1123_1139 := A_ (gm_ hg BK1123.out); have NB1139_1123 := A_ (gn_ hg BK1123.out); replace BK1123 := A_ (bw_ BK1123.out hb); have NB1138_1139 := A_ (gm_ hg BK1138.out); have NB1139_1138 := A_ (gn_ hg BK1138.out); replace BK1138 := A_ (bw_ BK1138.out hb); clear hb hbox hg; have hnb50 := NB1138_1112.out; have hnc50 := NB1112_1138.out; have hnb51 := NB1138_1123.out; have hnc51 := NB1123_1138.out; have hnb52 := NB1138_1139.out; have hnc52 := NB1139_1138.out; obtain ⟨hcz53_0, hcz53_1, hcz53_2, hcz53_3, hcz53_4, hfz53_0, hfz53_1, hfz53_2, hfz53_3, hfz53_4⟩ := cz5_ BK1138.out; obtain ⟨Ao54, co54, eo54⟩ := Kd.R_slice HO1127.out; subst eo54; have hnb55 := NB1139_1112.out; have hnc55 := NB1112_1139.out; have hnb56 := NB1139_1123.out; have hnc56 := NB1123_1139.out; obtain ⟨hcz57_0, hcz57_1, hcz57_2, hcz57_3, hcz57_4, hfz57_0, hfz57_1, hfz57_2, hfz57_3, hfz57_4⟩ := cz5_ BK1139.out; obtain ⟨Ao58, co58, eo58⟩ := Kd.R_slice HO1134.out; subst eo58) | ((with_reducible refine gate_callee (f := 58) rfl ?_); refine gL_ (some 38) Try.func58 #[.slice A0 l0.length c0] ?_; (with_reducible refine (spec_DrawDropLock.calls k _ _ l0 t1140 t1141 _ ?s1 ?s2 A7.out).mono ?_); (case s1 => exact Kd.C_below HR0.out (by repeat (first | (with_reducible first | exact HB.out | apply below_alloc | apply pw_below_drewN | apply below_drew1 | refine below_set ?_ GE1112.out | refine below_set ?_ GE1123.out | refine below_set ?_ GE1138.out | refine below_set ?_ GE1139.out) | exact HB.out))); (case s2 => exact HC0.out); rintro e w59 ⟨v1142, rfl, ho0, hb⟩; refine ⟨_, rfl, ?_⟩; have HO1143 := A_ (Kd.N_lower (Kd.N_mono (ok' := fun k_ => some k_ ≠ (.slice Ao41 t1106.length co41 : Value).ownBlock ∧ some k_ ≠ (.slice Ao46 t1114.length co46 : Value).ownBlock ∧ some k_ ≠ (v1121 : Value).ownBlock ∧ some k_ ≠ (.slice Ao54 t1125.length co54 : Value).ownBlock ∧ some k_ ≠ (.slice Ao58 t1132.length co58 : Value).ownBlock ∧ k_ ≠ gb1112 ∧ k_ ≠ gb1123 ∧ k_ ≠ gb1138 ∧ k_ ≠ gb1139) (Kd.S_N (Kd.S_bound ho0)) (fun k_ hk_ => ⟨(Kd.fresh' (Kd.R_lt (by (with_reducible repeat (first | apply Kd.R_alloc | apply Kd.R_drewN | apply Kd.R_drew)); exact (Kd.R_mono (Kd.R_mono (Kd.R_far (p := ⟨gb1139, 4, none⟩) (Kd.R_far (p := ⟨gb1139, 3, none⟩) (Kd.R_far (p := ⟨gb1139, 2, none⟩) (Kd.R_far (p := ⟨gb1139, 1, none⟩) (Kd.R_far (p := ⟨gb1139, 0, none⟩) (Kd.R_far (p := ⟨gb1138, 4, none⟩) (Kd.R_far (p := ⟨gb1138, 3, none⟩) (Kd.R_far (p := ⟨gb1138, 2, none⟩) (Kd.R_far (p := ⟨gb1138, 1, none⟩) (Kd.R_far (p := ⟨gb1138, 0, none⟩) (Kd.R_types (Kd.R_types HO1108.out BK1138.out (by decide)) BK1139.out (by decide)) (fun _ hk => hk.1.2) (.int .i64 t1124)) (fun _ hk => hk.1.2) (.slice Ao54 t1125.length co54)) (fun _ hk => hk.1.2) (.bool t1128)) (fun _ hk => hk.1.2) (.bool t1129)) (fun _ hk => hk.1.2) (.int .i64 t1130)) (fun _ hk => hk.2) (.int .i64 t1131)) (fun _ hk => hk.2) (.slice Ao58 t1132.length co58)) (fun _ hk => hk.2) (.bool t1135)) (fun _ hk => hk.2) (.bool t1136)) (fun _ hk => hk.2) (.int .i64 t1137)) (fun _ h_ => h_.1)) (fun _ h_ => h_.1)))) k_ hk_.2.1), (Kd.fresh' (Kd.R_lt (by (with_reducible repeat (first | apply Kd.R_alloc | apply Kd.R_drewN | apply Kd.R_drew)); exact (Kd.R_mono (Kd.R_mono (Kd.R_far (p := ⟨gb1139, 4, none⟩) (Kd.R_far (p := ⟨gb1139, 3, none⟩) (Kd.R_far (p := ⟨gb1139, 2, none⟩) (Kd.R_far (p := ⟨gb1139, 1, none⟩) (Kd.R_far (p := ⟨gb1139, 0, none⟩) (Kd.R_far (p := ⟨gb1138, 4, none⟩) (Kd.R_far (p := ⟨gb1138, 3, none⟩) (Kd.R_far (p := ⟨gb1138, 2, none⟩) (Kd.R_far (p := ⟨gb1138, 1, none⟩) (Kd.R_far (p := ⟨gb1138, 0, none⟩) (Kd.R_types (Kd.R_types HO1116.out BK1138.out (by decide)) BK1139.out (by decide)) (fun _ hk => hk.1.2) (.int .i64 t1124)) (fun _ hk => hk.1.2) (.slice Ao54 t1125.length co54)) (fun _ hk => hk.1.2) (.bool t1128)) (fun _ hk => hk.1.2) (.bool t1129)) (fun _ hk => hk.1.2) (.int .i64 t1130)) (fun _ hk => hk.2) (.int .i64 t1131)) (fun _ hk => hk.2) (.slice Ao58 t1132.length co58)) (fun _ hk => hk.2) (.bool t1135)) (fun _ hk => hk.2) (.bool t1136)) (fun _ hk => hk.2) (.int .i64 t1137)) (fun _ h_ => h_.1)) (fun _ h_ => h_.1)))) k_ hk_.2.1), (Kd.fresh' (Kd.R_lt (by (with_reducible repeat (first | apply Kd.R_alloc | apply Kd.R_drewN | apply Kd.R_drew)); exact (Kd.R_mono (Kd.R_mono (Kd.R_far (p := ⟨gb1139, 4, none⟩) (Kd.R_far (p := ⟨gb1139, 3, none⟩) (Kd.R_far (p := ⟨gb1139, 2, none⟩) (Kd.R_far (p := ⟨gb1139, 1, none⟩) (Kd.R_far (p := ⟨gb1139, 0, none⟩) (Kd.R_far (p := ⟨gb1138, 4, none⟩) (Kd.R_far (p := ⟨gb1138, 3, none⟩) (Kd.R_far (p := ⟨gb1138, 2, none⟩) (Kd.R_far (p := ⟨gb1138, 1, none⟩) (Kd.R_far (p := ⟨gb1138, 0, none⟩) (Kd.R_types (Kd.R_types HO1122.out BK1138.out (by decide)) BK1139.out (by decide)) (fun _ hk => hk.1.2) (.int .i64 t1124)) (fun _ hk => hk.1.2) (.slice Ao54 t1125.length co54)) (fun _ hk => hk.1.2) (.bool t1128)) (fun _ hk => hk.1.2) (.bool t1129)) (fun _ hk => hk.1.2) (.int .i64 t1130)) (fun _ hk => hk.2) (.int .i64 t1131)) (fun _ hk => hk.2) (.slice Ao58 t1132.length co58)) (fun _ hk => hk.2) (.bool t1135)) (fun _ hk => hk.2) (.bool t1136)) (fun _ hk => hk.2) (.int .i64 t1137)) (fun _ h_ => h_.1)) (fun _ h_ => h_.1)))) k_ hk_.2.1), (Kd.fresh' (Kd.R_lt (by (with_reducible repeat (first | apply Kd.R_alloc | apply Kd.R_drewN | apply Kd.R_drew)); exact (Kd.R_mono (Kd.R_mono (Kd.R_far (p := ⟨gb1139, 4, none⟩) (Kd.R_far (p := ⟨gb1139, 3, none⟩) (Kd.R_far (p := ⟨gb1139, 2, none⟩) (Kd.R_far (p := ⟨gb1139, 1, none⟩) (Kd.R_far (p := ⟨gb1139, 0, none⟩) (Kd.R_far (p := ⟨gb1138, 4, none⟩) (Kd.R_far (p := ⟨gb1138, 3, none⟩) (Kd.R_far (p := ⟨gb1138, 2, none⟩) (Kd.R_far (p := ⟨gb1138, 1, none⟩) (Kd.R_far (p := ⟨gb1138, 0, none⟩) (Kd.R_types (Kd.R_types HO1127.out BK1138.out (by decide)) BK1139.out (by decide)) (fun _ hk => hk.1.2) (.int .i64 t1124)) (fun _ hk => hk.1.2) (.slice Ao54 t1125.length co54)) (fun _ hk => hk.1.2) (.bool t1128)) (fun _ hk => hk.1.2) (.bool t1129)) (fun _ hk => hk.1.2) (.int .i64 t1130)) (fun _ hk => hk.2) (.int .i64 t1131)) (fun _ hk => hk.2) (.slice Ao58 t1132.length co58)) (fun _ hk => hk.2) (.bool t1135)) (fun _ hk => hk.2) (.bool t1136)) (fun _ hk => hk.2) (.int .i64 t1137)) (fun _ h_ => h_.1)) (fun _ h_ => h_.1)))) k_ hk_.2.1), (Kd.fresh' (Kd.R_lt (by (with_reducible repeat (first | apply Kd.R_alloc | apply Kd.R_drewN | apply Kd.R_drew)); exact (Kd.R_mono (Kd.R_mono (Kd.R_far (p := ⟨gb1139, 4, none⟩) (Kd.R_far (p := ⟨gb1139, 3, none⟩) (Kd.R_far (p := ⟨gb1139, 2, none⟩) (Kd.R_far (p := ⟨gb1139, 1, none⟩) (Kd.R_far (p := ⟨gb1139, 0, none⟩) (Kd.R_far (p := ⟨gb1138, 4, none⟩) (Kd.R_far (p := ⟨gb1138, 3, none⟩) (Kd.R_far (p := ⟨gb1138, 2, none⟩) (Kd.R_far (p := ⟨gb1138, 1, none⟩) (Kd.R_far (p := ⟨gb1138, 0, none⟩) (Kd.R_types (Kd.R_types HO1134.out BK1138.out (by decide)) BK1139.out (by decide)) (fun _ hk => hk.1.2) (.int .i64 t1124)) (fun _ hk => hk.1.2) (.slice Ao54 t1125.length co54)) (fun _ hk => hk.1.2) (.bool t1128)) (fun _ hk => hk.1.2) (.bool t1129)) (fun _ hk => hk.1.2) (.int .i64 t1130)) (fun _ hk => hk.2) (.int .i64 t1131)) (fun _ hk => hk.2) (.slice Ao58 t1132.length co58)) (fun _ hk => hk.2) (.bool t1135)) (fun _ hk => hk.2) (.bool t1136)) (fun _ hk => hk.2) (.int .i64 t1137)) (fun _ h_ => h_.1)) (fun _ h_ => h_.1)))) k_ hk_.2.1), (Kd.freshB (g := gb1112) (o := .cells #[.int .i64 t1105, .slice Ao41 t1106.length co41, .bool t1109, .bool t1110, .int .i64 t1111] 28 (0, 0)) (by (with_reducible repeat (first | refine blk_drewN ?_ _ | refine blk_drew ?_ | refine blk_alloc ?_ _)); refine blk_far ?_ NB1112_1139.out _; (with_reducible repeat (first | refine blk_drewN ?_ _ | refine blk_drew ?_ | refine blk_alloc ?_ _)); refine blk_far ?_ NB1112_1139.out _; (with_reducible repeat (first | refine blk_drewN ?_ _ | refine blk_drew ?_ | refine blk_alloc ?_ _)); refine blk_far ?_ NB1112_1139.out _; (with_reducible repeat (first | refine blk_drewN ?_ _ | refine blk_drew ?_ | refine blk_alloc ?_ _)); refine blk_far ?_ NB1112_1139.out _; (with_reducible repeat (first | refine blk_drewN ?_ _ | refine blk_drew ?_ | refine blk_alloc ?_ _)); refine blk_far ?_ NB1112_1139.out _; (with_reducible repeat (first | refine blk_drewN ?_ _ | refine blk_drew ?_ | refine blk_alloc ?_ _)); refine blk_far ?_ NB1112_1138.out _; (with_reducible repeat (first | refine blk_drewN ?_ _ | refine blk_drew ?_ | refine blk_alloc ?_ _)); refine blk_far ?_ NB1112_1138.out _; (with_reducible repeat (first | refine blk_drewN ?_ _ | refine blk_drew ?_ | refine blk_alloc ?_ _)); refine blk_far ?_ NB1112_1138.out _; (with_reducible repeat (first | refine blk_drewN ?_ _ | refine blk_drew ?_ | refine blk_alloc ?_ _)); refine blk_far ?_ NB1112_1138.out _; (with_reducible repeat (first | refine blk_drewN ?_ _ | refine blk_drew ?_ | refine blk_alloc ?_ _)); refine blk_far ?_ NB1112_1138.out _; (with_reducible repeat (first | refine blk_drewN ?_ _ | refine blk_drew ?_ | refine blk_alloc ?_ _)); exact BK1112.out) k_ hk_.2.1), (Kd.freshB (g := gb1123) (o := .cells #[.int .i64 t1113, .slice Ao46 t1114.length co46, .bool t1117, .bool t1118, .int .i64 t1119] 28 (0, 0)) (by (with_reducible repeat (first | refine blk_drewN ?_ _ | refine blk_drew ?_ | refine blk_alloc ?_ _)); refine blk_far ?_ NB1123_1139.out _; (with_reducible repeat (first | refine blk_drewN ?_ _ | refine blk_drew ?_ | refine blk_alloc ?_ _)); refine blk_far ?_ NB1123_1139.out _; (with_reducible repeat (first | refine blk_drewN ?_ _ | refine blk_drew ?_ | refine blk_alloc ?_ _)); refine blk_far ?_ NB1123_1139.out _; (with_reducible repeat (first | refine blk_drewN ?_ _ | refine blk_drew ?_ | refine blk_alloc ?_ _)); refine blk_far ?_ NB1123_1139.out _; (with_reducible repeat (first | refine blk_drewN ?_ _ | refine blk_drew ?_ | refine blk_alloc ?_ _)); refine blk_far ?_ NB1123_1139.out _; (with_reducible repeat (first | refine blk_drewN ?_ _ | refine blk_drew ?_ | refine blk_alloc ?_ _)); refine blk_far ?_ NB1123_1138.out _; (with_reducible repeat (first | refine blk_drewN ?_ _ | refine blk_drew ?_ | refine blk_alloc ?_ _)); refine blk_far ?_ NB1123_1138.out _; (with_reducible repeat (first | refine blk_drewN ?_ _ | refine blk_drew ?_ | refine blk_alloc ?_ _)); refine blk_far ?_ NB1123_1138.out _; (with_reducible repeat (first | refine blk_drewN ?_ _ | refine blk_drew ?_ | refine blk_alloc ?_ _)); refine blk_far ?_ NB1123_1138.out _; (with_reducible repeat (first | refine blk_drewN ?_ _ | refine blk_drew ?_ | refine blk_alloc ?_ _)); refine blk_far ?_ NB1123_1138.out _; (with_reducible repeat (first | refine blk_drewN ?_ _ | refine blk_drew ?_ | refine blk_alloc ?_ _)); exact BK1123.out) k_ hk_.2.1), (Kd.freshB (g := gb1138) (o := .cells #[.int .i64 t1124, .slice Ao54 t1125.length co54, .bool t1128, .bool t1129, .int .i64 t1130] 28 (0, 0)) (by (with_reducible repeat (first | refine blk_drewN ?_ _ | refine blk_drew ?_ | refine blk_alloc ?_ _)); refine blk_far ?_ NB1138_1139.out _; (with_reducible repeat (first | refine blk_drewN ?_ _ | refine blk_drew ?_ | refine blk_alloc ?_ _)); refine blk_far ?_ NB1138_1139.out _; (with_reducible repeat (first | refine blk_drewN ?_ _ | refine blk_drew ?_ | refine blk_alloc ?_ _)); refine blk_far ?_ NB1138_1139.out _; (with_reducible repeat (first | refine blk_drewN ?_ _ | refine blk_drew ?_ | refine blk_alloc ?_ _)); refine blk_far ?_ NB1138_1139.out _; (with_reducible repeat (first | refine blk_drewN ?_ _ | refine blk_drew ?_ | refine blk_alloc ?_ _)); refine blk_far ?_ NB1138_1139.out _; (with_reducible repeat (first | refine blk_drewN ?_ _ | refine blk_drew ?_ | refine blk_alloc ?_ _)); refine blk_put (cs := #[.int .i64 t1124, .slice Ao54 t1125.length co54, .bool t1128, .bool t1129, .int .i64 0]) ?_ 4 _ rfl; (with_reducible repeat (first | refine blk_drewN ?_ _ | refine blk_drew ?_ | refine blk_alloc ?_ _)); refine blk_put (cs := #[.int .i64 t1124, .slice Ao54 t1125.length co54, .bool t1128, .bool false, .int .i64 0]) ?_ 3 _ rfl; (with_reducible repeat (first | refine blk_drewN ?_ _ | refine blk_drew ?_ | refine blk_alloc ?_ _)); refine blk_put (cs := #[.int .i64 t1124, .slice Ao54 t1125.length co54, .bool false, .bool false, .int .i64 0]) ?_ 2 _ rfl; (with_reducible repeat (first | refine blk_drewN ?_ _ | refine blk_drew ?_ | refine blk_alloc ?_ _)); refine blk_put (cs := #[.int .i64 t1124, .slice none 0 0, .bool false, .bool false, .int .i64 0]) ?_ 1 _ rfl; (with_reducible repeat (first | refine blk_drewN ?_ _ | refine blk_drew ?_ | refine blk_alloc ?_ _)); refine blk_put (cs := #[.int .i64 0, .slice none 0 0, .bool false, .bool false, .int .i64 0]) ?_ 0 _ rfl; (with_reducible repeat (first | refine blk_drewN ?_ _ | refine blk_drew ?_ | refine blk_alloc ?_ _)); exact BK1138.out) k_ hk_.2.1), (Kd.freshB (g := gb1139) (o := .cells #[.int .i64 t1131, .slice Ao58 t1132.length co58, .bool t1135, .bool t1136, .int .i64 t1137] 28 (0, 0)) (by (with_reducible repeat (first | refine blk_drewN ?_ _ | refine blk_drew ?_ | refine blk_alloc ?_ _)); refine blk_put (cs := #[.int .i64 t1131, .slice Ao58 t1132.length co58, .bool t1135, .bool t1136, .int .i64 0]) ?_ 4 _ rfl; (with_reducible repeat (first | refine blk_drewN ?_ _ | refine blk_drew ?_ | refine blk_alloc ?_ _)); refine blk_put (cs := #[.int .i64 t1131, .slice Ao58 t1132.length co58, .bool t1135, .bool false, .int .i64 0]) ?_ 3 _ rfl; (with_reducible repeat (first | refine blk_drewN ?_ _ | refine blk_drew ?_ | refine blk_alloc ?_ _)); refine blk_put (cs := #[.int .i64 t1131, .slice Ao58 t1132.length co58, .bool false, .bool false, .int .i64 0]) ?_ 2 _ rfl; (with_reducible repeat (first | refine blk_drewN ?_ _ | refine blk_drew ?_ | refine blk_alloc ?_ _)); refine blk_put (cs := #[.int .i64 t1131, .slice none 0 0, .bool false, .bool false, .int .i64 0]) ?_ 1 _ rfl; (with_reducible repeat (first | refine blk_drewN ?_ _ | refine blk_drew ?_ | refine blk_alloc ?_ _)); refine blk_put (cs := #[.int .i64 0, .slice none 0 0, .bool false, .bool false, .int .i64 0]) ?_ 0 _ rfl; (with_reducible repeat (first | refine blk_drewN ?_ _ | refine blk_drew ?_ | refine blk_alloc ?_ _)); refine blk_far ?_ NB1139_1138.out _; (with_reducible repeat (first | refine blk_drewN ?_ _ | refine blk_drew ?_ | refine blk_alloc ?_ _)); refine blk_far ?_ NB1139_1138.out _; (with_reducible repeat (first | refine blk_drewN ?_ _ | refine blk_drew ?_ | refine blk_alloc ?_ _)); refine blk_far ?_ NB1139_1138.out _; (with_reducible repeat (first | refine blk_drewN ?_ _ | refine blk_drew ?_ | refine blk_alloc ?_ _)); refine blk_far ?_ NB1139_1138.out _; (with_reducible repeat (first | refine blk_drewN ?_ _ | refine blk_drew ?_ | refine blk_alloc ?_ _)); refine blk_far ?_ NB1139_1138.out _; (with_reducible repeat (first | refine blk_drewN ?_ _ | refine blk_drew ?_ | refine blk_alloc ?_ _)); exact BK1139.out) k_ hk_.2.1)⟩)) (below_size (by repeat (first | (with_reducible first | exact HB.out | apply below_alloc | apply pw_below_drewN | apply below_drew1 | refine below_set ?_ GE1112.out | refine below_set ?_ GE1123.out | refine below_set ?_ GE1138.out | refine below_set ?_ GE1139.out) | exact HB.out)))); replace HO1108 := A_ (Kd.R_below (by (with_reducible repeat (first | apply Kd.R_alloc | apply Kd.R_drewN | apply Kd.R_drew)); exact (Kd.R_mono (Kd.R_mono (Kd.R_far (p := ⟨gb1139, 4, none⟩) (Kd.R_far (p := ⟨gb1139, 3, none⟩) (Kd.R_far (p := ⟨gb1139, 2, none⟩) (Kd.R_far (p := ⟨gb1139, 1, none⟩) (Kd.R_far (p := ⟨gb1139, 0, none⟩) (Kd.R_far (p := ⟨gb1138, 4, none⟩) (Kd.R_far (p := ⟨gb1138, 3, none⟩) (Kd.R_far (p := ⟨gb1138, 2, none⟩) (Kd.R_far (p := ⟨gb1138, 1, none⟩) (Kd.R_far (p := ⟨gb1138, 0, none⟩) (Kd.R_types (Kd.R_types HO1108.out BK1138.out (by decide)) BK1139.out (by decide)) (fun _ hk => hk.1.2) (.int .i64 t1124)) (fun _ hk => hk.1.2) (.slice Ao54 t1125.length co54)) (fun _ hk => hk.1.2) (.bool t1128)) (fun _ hk => hk.1.2) (.bool t1129)) (fun _ hk => hk.1.2) (.int .i64 t1130)) (fun _ hk => hk.2) (.int .i64 t1131)) (fun _ hk => hk.2) (.slice Ao58 t1132.length co58)) (fun _ hk => hk.2) (.bool t1135)) (fun _ hk => hk.2) (.bool t1136)) (fun _ hk => hk.2) (.int .i64 t1137)) (fun _ h_ => h_.1)) (fun _ h_ => h_.1))) hb); replace HO1116 := A_ (Kd.R_below (by (with_reducible repeat (first | apply Kd.R_alloc | apply Kd.R_drewN | apply Kd.R_drew)); exact (Kd.R_mono (Kd.R_mono (Kd.R_far (p := ⟨gb1139, 4, none⟩) (Kd.R_far (p := ⟨gb1139, 3, none⟩) (Kd.R_far (p := ⟨gb1139, 2, none⟩) (Kd.R_far (p := ⟨gb1139, 1, none⟩) (Kd.R_far (p := ⟨gb1139, 0, none⟩) (Kd.R_far (p := ⟨gb1138, 4, none⟩) (Kd.R_far (p := ⟨gb1138, 3, none⟩) (Kd.R_far (p := ⟨gb1138, 2, none⟩) (Kd.R_far (p := ⟨gb1138, 1, none⟩) (Kd.R_far (p := ⟨gb1138, 0, none⟩) (Kd.R_types (Kd.R_types HO1116.out BK1138.out (by decide)) BK1139.out (by decide)) (fun _ hk => hk.1.2) (.int .i64 t1124)) (fun _ hk => hk.1.2) (.slice Ao54 t1125.length co54)) (fun _ hk => hk.1.2) (.bool t1128)) (fun _ hk => hk.1.2) (.bool t1129)) (fun _ hk => hk.1.2) (.int .i64 t1130)) (fun _ hk => hk.2) (.int .i64 t1131)) (fun _ hk => hk.2) (.slice Ao58 t1132.length co58)) (fun _ hk => hk.2) (.bool t1135)) (fun _ hk => hk.2) (.bool t1136)) (fun _ hk => hk.2) (.int .i64 t1137)) (fun _ h_ => h_.1)) (fun _ h_ => h_.1))) hb); replace HO1122 := A_ (Kd.R_below (by (with_reducible repeat (first | apply Kd.R_alloc | apply Kd.R_drewN | apply Kd.R_drew)); exact (Kd.R_mono (Kd.R_mono (Kd.R_far (p := ⟨gb1139, 4, none⟩) (Kd.R_far (p := ⟨gb1139, 3, none⟩) (Kd.R_far (p := ⟨gb1139, 2, none⟩) (Kd.R_far (p := ⟨gb1139, 1, none⟩) (Kd.R_far (p := ⟨gb1139, 0, none⟩) (Kd.R_far (p := ⟨gb1138, 4, none⟩) (Kd.R_far (p := ⟨gb1138, 3, none⟩) (Kd.R_far (p := ⟨gb1138, 2, none⟩) (Kd.R_far (p := ⟨gb1138, 1, none⟩) (Kd.R_far (p := ⟨gb1138, 0, none⟩) (Kd.R_types (Kd.R_types HO1122.out BK1138.out (by decide)) BK1139.out (by decide)) (fun _ hk => hk.1.2) (.int .i64 t1124)) (fun _ hk => hk.1.2) (.slice Ao54 t1125.length co54)) (fun _ hk => hk.1.2) (.bool t1128)) (fun _ hk => hk.1.2) (.bool t1129)) (fun _ hk => hk.1.2) (.int .i64 t1130)) (fun _ hk => hk.2) (.int .i64 t1131)) (fun _ hk => hk.2) (.slice Ao58 t1132.length co58)) (fun _ hk => hk.2) (.bool t1135)) (fun _ hk => hk.2) (.bool t1136)) (fun _ hk => hk.2) (.int .i64 t1137)) (fun _ h_ => h_.1)) (fun _ h_ => h_.1))) hb); replace HO1127 := A_ (Kd.R_below (by (with_reducible repeat (first | apply Kd.R_alloc | apply Kd.R_drewN | apply Kd.R_drew)); exact (Kd.R_mono (Kd.R_mono (Kd.R_far (p := ⟨gb1139, 4, none⟩) (Kd.R_far (p := ⟨gb1139, 3, none⟩) (Kd.R_far (p := ⟨gb1139, 2, none⟩) (Kd.R_far (p := ⟨gb1139, 1, none⟩) (Kd.R_far (p := ⟨gb1139, 0, none⟩) (Kd.R_far (p := ⟨gb1138, 4, none⟩) (Kd.R_far (p := ⟨gb1138, 3, none⟩) (Kd.R_far (p := ⟨gb1138, 2, none⟩) (Kd.R_far (p := ⟨gb1138, 1, none⟩) (Kd.R_far (p := ⟨gb1138, 0, none⟩) (Kd.R_types (Kd.R_types HO1127.out BK1138.out (by decide)) BK1139.out (by decide)) (fun _ hk => hk.1.2) (.int .i64 t1124)) (fun _ hk => hk.1.2) (.slice Ao54 t1125.length co54)) (fun _ hk => hk.1.2) (.bool t1128)) (fun _ hk => hk.1.2) (.bool t1129)) (fun _ hk => hk.1.2) (.int .i64 t1130)) (fun _ hk => hk.2) (.int .i64 t1131)) (fun _ hk => hk.2) (.slice Ao58 t1132.length co58)) (fun _ hk => hk.2) (.bool t1135)) (fun _ hk => hk.2) (.bool t1136)) (fun _ hk => hk.2) (.int .i64 t1137)) (fun _ h_ => h_.1)) (fun _ h_ => h_.1))) hb); replace HO1134 := A_ (Kd.R_below (by (with_reducible repeat (first | apply Kd.R_alloc | apply Kd.R_drewN | apply Kd.R_drew)); exact (Kd.R_mono (Kd.R_mono (Kd.R_far (p := ⟨gb1139, 4, none⟩) (Kd.R_far (p := ⟨gb1139, 3, none⟩) (Kd.R_far (p := ⟨gb1139, 2, none⟩) (Kd.R_far (p := ⟨gb1139, 1, none⟩) (Kd.R_far (p := ⟨gb1139, 0, none⟩) (Kd.R_far (p := ⟨gb1138, 4, none⟩) (Kd.R_far (p := ⟨gb1138, 3, none⟩) (Kd.R_far (p := ⟨gb1138, 2, none⟩) (Kd.R_far (p := ⟨gb1138, 1, none⟩) (Kd.R_far (p := ⟨gb1138, 0, none⟩) (Kd.R_types (Kd.R_types HO1134.out BK1138.out (by decide)) BK1139.out (by decide)) (fun _ hk => hk.1.2) (.int .i64 t1124)) (fun _ hk => hk.1.2) (.slice Ao54 t1125.length co54)) (fun _ hk => hk.1.2) (.bool t1128)) (fun _ hk => hk.1.2) (.bool t1129)) (fun _ hk => hk.1.2) (.int .i64 t1130)) (fun _ hk => hk.2) (.int .i64 t1131)) (fun _ hk => hk.2) (.slice Ao58 t1132.length co58)) (fun _ hk => hk.2) (.bool t1135)) (fun _ hk => hk.2) (.bool t1136)) (fun _ hk => hk.2) (.int .i64 t1137)) (fun _ h_ => h_.1)) (fun _ h_ => h_.1))) hb); replace BK1112 := A_ (blk_below (g := gb1112) (o := .cells #[.int .i64 t1105, .slice Ao41 t1106.length co41, .bool t1109, .bool t1110, .int .i64 t1111] 28 (0, 0)) (by (with_reducible repeat (first | refine blk_drewN ?_ _ | refine blk_drew ?_ | refine blk_alloc ?_ _)); refine blk_far ?_ NB1112_1139.out _; (with_reducible repeat (first | refine blk_drewN ?_ _ | refine blk_drew ?_ | refine blk_alloc ?_ _)); refine blk_far ?_ NB1112_1139.out _; (with_reducible repeat (first | refine blk_drewN ?_ _ | refine blk_drew ?_ | refine blk_alloc ?_ _)); refine blk_far ?_ NB1112_1139.out _; (with_reducible repeat (first | refine blk_drewN ?_ _ | refine blk_drew ?_ | refine blk_alloc ?_ _)); refine blk_far ?_ NB1112_1139.out _; (with_reducible repeat (first | refine blk_drewN ?_ _ | refine blk_drew ?_ | refine blk_alloc ?_ _)); refine blk_far ?_ NB1112_1139.out _; (with_reducible repeat (first | refine blk_drewN ?_ _ | refine blk_drew ?_ | refine blk_alloc ?_ _)); refine blk_far ?_ NB1112_1138.out _; (with_reducible repeat (first | refine blk_drewN ?_ _ | refine blk_drew ?_ | refine blk_alloc ?_ _)); refine blk_far ?_ NB1112_1138.out _; (with_reducible repeat (first | refine blk_drewN ?_ _ | refine blk_drew ?_ | refine blk_alloc ?_ _)); refine blk_far ?_ NB1112_1138.out _; (with_reducible repeat (first | refine blk_drewN ?_ _ | refine blk_drew ?_ | refine blk_alloc ?_ _)); refine blk_far ?_ NB1112_1138.out _; (with_reducible repeat (first | refine blk_drewN ?_ _ | refine blk_drew ?_ | refine blk_alloc ?_ _)); refine blk_far ?_ NB1112_1138.out _; (with_reducible repeat (first | refine blk_drewN ?_ _ | refine blk_drew ?_ | refine blk_alloc ?_ _)); exact BK1112.out) hb); replace BK1123 := A_ (blk_below (g := gb1123) (o := .cells #[.int .i64 t1113, .slice Ao46 t1114.length co46, .bool t1117, .bool t1118, .int .i64 t1119] 28 (0, 0)) (by (with_reducible repeat (first | refine blk_drewN ?_ _ | refine blk_drew ?_ | refine blk_alloc ?_ _)); refine blk_far ?_ NB1123_1139.out _; (with_reducible repeat (first | refine blk_drewN ?_ _ | refine blk_drew ?_ | refine blk_alloc ?_ _)); refine blk_far ?_ NB1123_1139.out _; (with_reducible repeat (first | refine blk_drewN ?_ _ | refine blk_drew ?_ | refine blk_alloc ?_ _)); refine blk_far ?_ NB1123_1139.out _; (with_reducible repeat (first | refine blk_drewN ?_ _ | refine blk_drew ?_ | refine blk_alloc ?_ _)); refine blk_far ?_ NB1123_1139.out _; (with_reducible repeat (first | refine blk_drewN ?_ _ | refine blk_drew ?_ | refine blk_alloc ?_ _)); refine blk_far ?_ NB1123_1139.out _; (with_reducible repeat (first | refine blk_drewN ?_ _ | refine blk_drew ?_ | refine blk_alloc ?_ _)); refine blk_far ?_ NB1123_1138.out _; (with_reducible repeat (first | refine blk_drewN ?_ _ | refine blk_drew ?_ | refine blk_alloc ?_ _)); refine blk_far ?_ NB1123_1138.out _; (with_reducible repeat (first | refine blk_drewN ?_ _ | refine blk_drew ?_ | refine blk_alloc ?_ _)); refine blk_far ?_ NB1123_1138.out _; (with_reducible repeat (first | refine blk_drewN ?_ _ | refine blk_drew ?_ | refine blk_alloc ?_ _)); refine blk_far ?_ NB1123_1138.out _; (with_reducible repeat (first | refine blk_drewN ?_ _ | refine blk_drew ?_ | refine blk_alloc ?_ _)); refine blk_far ?_ NB1123_1138.out _; (with_reducible repeat (first | refine blk_drewN ?_ _ | refine blk_drew ?_ | refine blk_alloc ?_ _)); exact BK1123.out) hb); replace BK1138 := A_ (blk_below (g := gb1138) (o := .cells #[.int .i64 t1124, .slice Ao54 t1125.length co54, .bool t1128, .bool t1129, .int .i64 t1130] 28 (0, 0)) (by (with_reducible repeat (first | refine blk_drewN ?_ _ | refine blk_drew ?_ | refine blk_alloc ?_ _)); refine blk_far ?_ NB1138_1139.out _; (with_reducible repeat (first | refine blk_drewN ?_ _ | refine blk_drew ?_ | refine blk_alloc ?_ _)); refine blk_far ?_ NB1138_1139.out _; (with_reducible repeat (first | refine blk_drewN ?_ _ | refine blk_drew ?_ | refine blk_alloc ?_ _)); refine blk_far ?_ NB1138_1139.out _; (with_reducible repeat (first | refine blk_drewN ?_ _ | refine blk_drew ?_ | refine blk_alloc ?_ _)); refine blk_far ?_ NB1138_1139.out _; (with_reducible repeat (first | refine blk_drewN ?_ _ | refine blk_drew ?_ | refine blk_alloc ?_ _)); refine blk_far ?_ NB1138_1139.out _; (with_reducible repeat (first | refine blk_drewN ?_ _ | refine blk_drew ?_ | refine blk_alloc ?_ _)); refine blk_put (cs := #[.int .i64 t1124, .slice Ao54 t1125.length co54, .bool t1128, .bool t1129, .int .i64 0]) ?_ 4 _ rfl; (with_reducible repeat (first | refine blk_drewN ?_ _ | refine blk_drew ?_ | refine blk_alloc ?_ _)); refine blk_put (cs := #[.int .i64 t1124, .slice Ao54 t1125.length co54, .bool t1128, .bool false, .int .i64 0]) ?_ 3 _ rfl; (with_reducible repeat (first | refine blk_drewN ?_ _ | refine blk_drew ?_ | refine blk_alloc ?_ _)); refine blk_put (cs := #[.int .i64 t1124, .slice Ao54 t1125.length co54, .bool false, .bool false, .int .i64 0]) ?_ 2 _ rfl; (with_reducible repeat (first | refine blk_drewN ?_ _ | refine blk_drew ?_ | refine blk_alloc ?_ _)); refine blk_put (cs := #[.int .i64 t1124, .slice none 0 0, .bool false, .bool false, .int .i64 0]) ?_ 1 _ rfl; (with_reducible repeat (first | refine blk_drewN ?_ _ | refine blk_drew ?_ | refine blk_alloc ?_ _)); refine blk_put (cs := #[.int .i64 0, .slice none 0 0, .bool false, .bool false, .int .i64 0]) ?_ 0 _ rfl; (with_reducible repeat (first | refine blk_drewN ?_ _ | refine blk_drew ?_ | refine blk_alloc ?_ _)); exact BK1138.out) hb); replace BK1139 := A_ (blk_below (g := gb1139) (o := .cells #[.int .i64 t1131, .slice Ao58 t1132.length co58, .bool t1135, .bool t1136, .int .i64 t1137] 28 (0, 0)) (by (with_reducible repeat (first | refine blk_drewN ?_ _ | refine blk_drew ?_ | refine blk_alloc ?_ _)); refine blk_put (cs := #[.int .i64 t1131, .slice Ao58 t1132.length co58, .bool t1135, .bool t1136, .int .i64 0]) ?_ 4 _ rfl; (with_reducible repeat (first | refine blk_drewN ?_ _ | refine blk_drew ?_ | refine blk_alloc ?_ _)); refine blk_put (cs := #[.int .i64 t1131, .slice Ao58 t1132.length co58, .bool t1135, .bool false, .int .i64 0]) ?_ 3 _ rfl; (with_reducible repeat (first | refine blk_drewN ?_ _ | refine blk_drew ?_ | refine blk_alloc ?_ _)); refine blk_put (cs := #[.int .i64 t1131, .slice Ao58 t1132.length co58, .bool false, .bool false, .int .i64 0]) ?_ 2 _ rfl; (with_reducible repeat (first | refine blk_drewN ?_ _ | refine blk_drew ?_ | refine blk_alloc ?_ _)); refine blk_put (cs := #[.int .i64 t1131, .slice none 0 0, .bool false, .bool false, .int .i64 0]) ?_ 1 _ rfl; (with_reducible repeat (first | refine blk_drewN ?_ _ | refine blk_drew ?_ | refine blk_alloc ?_ _)); refine blk_put (cs := #[.int .i64 0, .slice none 0 0, .bool false, .bool false, .int .i64 0]) ?_ 0 _ rfl; (with_reducible repeat (first | refine blk_drewN ?_ _ | refine blk_drew ?_ | refine blk_alloc ?_ _)); refine blk_far ?_ NB1139_1138.out _; (with_reducible repeat (first | refine blk_drewN ?_ _ | refine blk_drew ?_ | refine blk_alloc ?_ _)); refine blk_far ?_ NB1139_1138.out _; (with_reducible repeat (first | refine blk_drewN ?_ _ | refine blk_drew ?_ | refine blk_alloc ?_ _)); refine blk_far ?_ NB1139_1138.out _; (with_reducible repeat (first | refine blk_drewN ?_ _ | refine blk_drew ?_ | refine blk_alloc ?_ _)); refine blk_far ?_ NB1139_1138.out _; (with_reducible repeat (first | refine blk_drewN ?_ _ | refine blk_drew ?_ | refine blk_alloc ?_ _)); refine blk_far ?_ NB1139_1138.out _; (with_reducible repeat (first | refine blk_drewN ?_ _ | refine blk_drew ?_ | refine blk_alloc ?_ _)); exact BK1139.out) hb); replace HB := A_ (below_step (by repeat (first | (with_reducible first | exact HB.out | apply below_alloc | apply pw_below_drewN | apply below_drew1 | refine below_set ?_ GE1112.out | refine below_set ?_ GE1123.out | refine below_set ?_ GE1138.out | refine below_set ?_ GE1139.out) | exact HB.out)) hb); (try clear hb); (try clear ho0); obtain ⟨Ao60, co60, eo60⟩ := Kd.N_slice HO1143.out; subst eo60) | ((with_reducible refine gate_callee (f := 33) rfl ?_); refine gL_ (some 44) Try.func33 #[.slice Ao60 t1140.length co60, .int .i64 t1141] ?_; (with_reducible refine (impl_DropLock.calls k _ _ t1140 t1141 t1144 t1147 _ ?s1 ?s2 A8.out).mono ?_); (case s1 => exact cC_ (Kd.N_reads' HO1143.out).2.2); (case s2 => exact (Kd.N_reads' HO1143.out).2.1); rintro e w61 ⟨v1145, rfl, ho0, hb⟩; refine ⟨_, rfl, ?_⟩; have HO1146 := A_ (Kd.N_lower (Kd.N_mono (ok' := fun k_ => some k_ ≠ (.slice Ao41 t1106.length co41 : Value).ownBlock ∧ some k_ ≠ (.slice Ao46 t1114.length co46 : Value).ownBlock ∧ some k_ ≠ (v1121 : Value).ownBlock ∧ some k_ ≠ (.slice Ao54 t1125.length co54 : Value).ownBlock ∧ some k_ ≠ (.slice Ao58 t1132.length co58 : Value).ownBlock ∧ some k_ ≠ (.slice Ao60 t1140.length co60 : Value).ownBlock ∧ k_ ≠ gb1112 ∧ k_ ≠ gb1123 ∧ k_ ≠ gb1138 ∧ k_ ≠ gb1139) ho0 (fun k_ hk_ => ⟨(Kd.fresh' (Kd.R_lt (vR_ HO1108.out)) k_ hk_), (Kd.fresh' (Kd.R_lt (vR_ HO1116.out)) k_ hk_), (Kd.fresh' (Kd.R_lt (vR_ HO1122.out)) k_ hk_), (Kd.fresh' (Kd.R_lt (vR_ HO1127.out)) k_ hk_), (Kd.fresh' (Kd.R_lt (vR_ HO1134.out)) k_ hk_), (Kd.fresh' (Kd.N_lt (vN_ HO1143.out)) k_ hk_), (Kd.freshB (g := gb1112) (o := .cells #[.int .i64 t1105, .slice Ao41 t1106.length co41, .bool t1109, .bool t1110, .int .i64 t1111] 28 (0, 0)) (vb_ BK1112.out) k_ hk_), (Kd.freshB (g := gb1123) (o := .cells #[.int .i64 t1113, .slice Ao46 t1114.length co46, .bool t1117, .bool t1118, .int .i64 t1119] 28 (0, 0)) (vb_ BK1123.out) k_ hk_), (Kd.freshB (g := gb1138) (o := .cells #[.int .i64 t1124, .slice Ao54 t1125.length co54, .bool t1128, .bool t1129, .int .i64 t1130] 28 (0, 0)) (vb_ BK1138.out) k_ hk_), (Kd.freshB (g := gb1139) (o := .cells #[.int .i64 t1131, .slice Ao58 t1132.length co58, .bool t1135, .bool t1136, .int .i64 t1137] 28 (0, 0)) (vb_ BK1139.out) k_ hk_)⟩)) (below_size (by repeat (first | (with_reducible first | exact HB.out | apply below_alloc | apply pw_below_drewN | apply below_drew1 | refine below_set ?_ GE1112.out | refine below_set ?_ GE1123.out | refine below_set ?_ GE1138.out | refine below_set ?_ GE1139.out) | exact HB.out)))); replace HO1108 := A_ (Kd.R_below (vR_ HO1108.out) hb); replace HO1116 := A_ (Kd.R_below (vR_ HO1116.out) hb); replace HO1122 := A_ (Kd.R_below (vR_ HO1122.out) hb); replace HO1127 := A_ (Kd.R_below (vR_ HO1127.out) hb); replace HO1134 := A_ (Kd.R_below (vR_ HO1134.out) hb); replace HO1143 := A_ (Kd.N_elder' (vN_ HO1143.out) (kb_ ho0) hb); replace BK1112 := A_ (bw_ BK1112.out hb); replace BK1123 := A_ (bw_ BK1123.out hb); replace BK1138 := A_ (bw_ BK1138.out hb); replace BK1139 := A_ (bw_ BK1139.out hb); replace HB := A_ (below_step (by repeat (first | (with_reducible first | exact HB.out | apply below_alloc | apply pw_below_drewN | apply below_drew1 | refine below_set ?_ GE1112.out | refine below_set ?_ GE1123.out | refine below_set ?_ GE1138.out | refine below_set ?_ GE1139.out) | exact HB.out)) hb); (try clear hb); (try clear ho0)) | ((with_reducible refine gate_callee (f := 32) rfl ?_); refine gL_ (some 50) Try.func32 #[.slice Ao60 t1140.length co60, .int .i64 t1141] ?_; (with_reducible refine (spec_DropLock.calls k _ _ t1140 t1141 t1148 t1151 _ ?s1 ?s2 A9.out).mono ?_); (case s1 => exact cC_ (Kd.N_reads' HO1143.out).2.2); (case s2 => exact (Kd.N_reads' HO1143.out).2.1); rintro e w62 ⟨v1149, rfl, ho0, hb⟩; refine ⟨_, rfl, ?_⟩; have HO1150 := A_ (Kd.N_lower (Kd.N_mono (ok' := fun k_ => some k_ ≠ (.slice Ao41 t1106.length co41 : Value).ownBlock ∧ some k_ ≠ (.slice Ao46 t1114.length co46 : Value).ownBlock ∧ some k_ ≠ (v1121 : Value).ownBlock ∧ some k_ ≠ (.slice Ao54 t1125.length co54 : Value).ownBlock ∧ some k_ ≠ (.slice Ao58 t1132.length co58 : Value).ownBlock ∧ some k_ ≠ (.slice Ao60 t1140.length co60 : Value).ownBlock ∧ some k_ ≠ (v1145 : Value).ownBlock ∧ k_ ≠ gb1112 ∧ k_ ≠ gb1123 ∧ k_ ≠ gb1138 ∧ k_ ≠ gb1139) ho0 (fun k_ hk_ => ⟨(Kd.fresh' (Kd.R_lt (vR_ HO1108.out)) k_ hk_), (Kd.fresh' (Kd.R_lt (vR_ HO1116.out)) k_ hk_), (Kd.fresh' (Kd.R_lt (vR_ HO1122.out)) k_ hk_), (Kd.fresh' (Kd.R_lt (vR_ HO1127.out)) k_ hk_), (Kd.fresh' (Kd.R_lt (vR_ HO1134.out)) k_ hk_), (Kd.fresh' (Kd.N_lt (vN_ HO1143.out)) k_ hk_), (Kd.fresh' (Kd.N_lt (vN_ HO1146.out)) k_ hk_), (Kd.freshB (g := gb1112) (o := .cells #[.int .i64 t1105, .slice Ao41 t1106.length co41, .bool t1109, .bool t1110, .int .i64 t1111] 28 (0, 0)) (vb_ BK1112.out) k_ hk_), (Kd.freshB (g := gb1123) (o := .cells #[.int .i64 t1113, .slice Ao46 t1114.length co46, .bool t1117, .bool t1118, .int .i64 t1119] 28 (0, 0)) (vb_ BK1123.out) k_ hk_), (Kd.freshB (g := gb1138) (o := .cells #[.int .i64 t1124, .slice Ao54 t1125.length co54, .bool t1128, .bool t1129, .int .i64 t1130] 28 (0, 0)) (vb_ BK1138.out) k_ hk_), (Kd.freshB (g := gb1139) (o := .cells #[.int .i64 t1131, .slice Ao58 t1132.length co58, .bool t1135, .bool t1136, .int .i64 t1137] 28 (0, 0)) (vb_ BK1139.out) k_ hk_)⟩)) (below_size (by repeat (first | (with_reducible first | exact HB.out | apply below_alloc | apply pw_below_drewN | apply below_drew1 | refine below_set ?_ GE1112.out | refine below_set ?_ GE1123.out | refine below_set ?_ GE1138.out | refine below_set ?_ GE1139.out) | exact HB.out)))); replace HO1108 := A_ (Kd.R_below (vR_ HO1108.out) hb); replace HO1116 := A_ (Kd.R_below (vR_ HO1116.out) hb); replace HO1122 := A_ (Kd.R_below (vR_ HO1122.out) hb); replace HO1127 := A_ (Kd.R_below (vR_ HO1127.out) hb); replace HO1134 := A_ (Kd.R_below (vR_ HO1134.out) hb); replace HO1143 := A_ (Kd.N_elder' (vN_ HO1143.out) (kb_ ho0) hb); replace HO1146 := A_ (Kd.N_elder' (vN_ HO1146.out) (kb_ ho0) hb); replace BK1112 := A_ (bw_ BK1112.out hb); replace BK1123 := A_ (bw_ BK1123.out hb); replace BK1138 := A_ (bw_ BK1138.out hb); replace BK1139 := A_ (bw_ BK1139.out hb); replace HB := A_ (below_step (by repeat (first | (with_reducible first | exact HB.out | apply below_alloc | apply pw_below_drewN | apply below_drew1 | refine below_set ?_ GE1112.out | refine below_set ?_ GE1123.out | refine below_set ?_ GE1138.out | refine below_set ?_ GE1139.out) | exact HB.out)) hb); (try clear hb); (try clear ho0)) | ((with_reducible refine gate_callee (f := 59) rfl ?_); refine gL_ (some 55) Try.func59 #[.slice A0 l0.length c0] ?_; (with_reducible refine (spec_DrawLiveLocks.calls k _ _ l0 t1152 t1153 _ ?s1 ?s2 A10.out).mono ?_); (case s1 => exact cC_ (Kd.C_below HR0.out HB.out)); (case s2 => exact HC0.out); rintro e w63 ⟨v1154, rfl, ho0, hb⟩; refine ⟨_, rfl, ?_⟩; have HO1155 := A_ (Kd.N_lower (Kd.N_mono (ok' := fun k_ => some k_ ≠ (.slice Ao41 t1106.length co41 : Value).ownBlock ∧ some k_ ≠ (.slice Ao46 t1114.length co46 : Value).ownBlock ∧ some k_ ≠ (v1121 : Value).ownBlock ∧ some k_ ≠ (.slice Ao54 t1125.length co54 : Value).ownBlock ∧ some k_ ≠ (.slice Ao58 t1132.length co58 : Value).ownBlock ∧ some k_ ≠ (.slice Ao60 t1140.length co60 : Value).ownBlock ∧ some k_ ≠ (v1145 : Value).ownBlock ∧ some k_ ≠ (v1149 : Value).ownBlock ∧ k_ ≠ gb1112 ∧ k_ ≠ gb1123 ∧ k_ ≠ gb1138 ∧ k_ ≠ gb1139) (Kd.S_N (Kd.S_bound ho0)) (fun k_ hk_ => ⟨(Kd.fresh' (Kd.R_lt (vR_ HO1108.out)) k_ hk_.2.1), (Kd.fresh' (Kd.R_lt (vR_ HO1116.out)) k_ hk_.2.1), (Kd.fresh' (Kd.R_lt (vR_ HO1122.out)) k_ hk_.2.1), (Kd.fresh' (Kd.R_lt (vR_ HO1127.out)) k_ hk_.2.1), (Kd.fresh' (Kd.R_lt (vR_ HO1134.out)) k_ hk_.2.1), (Kd.fresh' (Kd.N_lt (vN_ HO1143.out)) k_ hk_.2.1), (Kd.fresh' (Kd.N_lt (vN_ HO1146.out)) k_ hk_.2.1), (Kd.fresh' (Kd.N_lt (vN_ HO1150.out)) k_ hk_.2.1), (Kd.freshB (g := gb1112) (o := .cells #[.int .i64 t1105, .slice Ao41 t1106.length co41, .bool t1109, .bool t1110, .int .i64 t1111] 28 (0, 0)) (vb_ BK1112.out) k_ hk_.2.1), (Kd.freshB (g := gb1123) (o := .cells #[.int .i64 t1113, .slice Ao46 t1114.length co46, .bool t1117, .bool t1118, .int .i64 t1119] 28 (0, 0)) (vb_ BK1123.out) k_ hk_.2.1), (Kd.freshB (g := gb1138) (o := .cells #[.int .i64 t1124, .slice Ao54 t1125.length co54, .bool t1128, .bool t1129, .int .i64 t1130] 28 (0, 0)) (vb_ BK1138.out) k_ hk_.2.1), (Kd.freshB (g := gb1139) (o := .cells #[.int .i64 t1131, .slice Ao58 t1132.length co58, .bool t1135, .bool t1136, .int .i64 t1137] 28 (0, 0)) (vb_ BK1139.out) k_ hk_.2.1)⟩)) (below_size (by repeat (first | (with_reducible first | exact HB.out | apply below_alloc | apply pw_below_drewN | apply below_drew1 | refine below_set ?_ GE1112.out | refine below_set ?_ GE1123.out | refine below_set ?_ GE1138.out | refine below_set ?_ GE1139.out) | exact HB.out)))); replace HO1108 := A_ (Kd.R_below (vR_ HO1108.out) hb); replace HO1116 := A_ (Kd.R_below (vR_ HO1116.out) hb); replace HO1122 := A_ (Kd.R_below (vR_ HO1122.out) hb); replace HO1127 := A_ (Kd.R_below (vR_ HO1127.out) hb); replace HO1134 := A_ (Kd.R_below (vR_ HO1134.out) hb); replace HO1143 := A_ (Kd.N_elder' (vN_ HO1143.out) (kb_ ho0) hb); replace HO1146 := A_ (Kd.N_elder' (vN_ HO1146.out) (kb_ ho0) hb); replace HO1150 := A_ (Kd.N_elder' (vN_ HO1150.out) (kb_ ho0) hb); replace BK1112 := A_ (bw_ BK1112.out hb); replace BK1123 := A_ (bw_ BK1123.out hb); replace BK1138 := A_ (bw_ BK1138.out hb); replace BK1139 := A_ (bw_ BK1139.out hb); replace HB := A_ (below_step (by repeat (first | (with_reducible first | exact HB.out | apply below_alloc | apply pw_below_drewN | apply below_drew1 | refine below_set ?_ GE1112.out | refine below_set ?_ GE1123.out | refine below_set ?_ GE1138.out | refine below_set ?_ GE1139.out) | exact HB.out)) hb); (try clear hb); (try clear ho0)) | ((with_reducible refine gate_callee (f := 52) rfl ?_); refine gL_ (some 60) Try.func52 #[.slice A0 l0.length c0] ?_; (with_reducible refine (spec_DrawTokensAt.calls k _ _ l0 t1156 t1157 _ ?s1 ?s2 A11.out).mono ?_); (case s1 => exact cC_ (Kd.C_below HR0.out HB.out)); (case s2 => exact HC0.out); rintro e w64 ⟨v1158, v1160, rfl, ho0, ho1, hb⟩; refine ⟨_, rfl, ?_⟩; have HO1159 := A_ (Kd.N_lower (Kd.N_mono (ok' := fun k_ => some k_ ≠ (v1160 : Value).ownBlock ∧ some k_ ≠ (.slice Ao41 t1106.length co41 : Value).ownBlock ∧ some k_ ≠ (.slice Ao46 t1114.length co46 : Value).ownBlock ∧ some k_ ≠ (v1121 : Value).ownBlock ∧ some k_ ≠ (.slice Ao54 t1125.length co54 : Value).ownBlock ∧ some k_ ≠ (.slice Ao58 t1132.length co58 : Value).ownBlock ∧ some k_ ≠ (.slice Ao60 t1140.length co60 : Value).ownBlock ∧ some k_ ≠ (v1145 : Value).ownBlock ∧ some k_ ≠ (v1149 : Value).ownBlock ∧ some k_ ≠ (v1154 : Value).ownBlock ∧ k_ ≠ gb1112 ∧ k_ ≠ gb1123 ∧ k_ ≠ gb1138 ∧ k_ ≠ gb1139) (Kd.S_N (Kd.S_bound ho0)) (fun k_ hk_ => ⟨hk_.1, (Kd.fresh' (Kd.R_lt (vR_ HO1108.out)) k_ hk_.2.1), (Kd.fresh' (Kd.R_lt (vR_ HO1116.out)) k_ hk_.2.1), (Kd.fresh' (Kd.R_lt (vR_ HO1122.out)) k_ hk_.2.1), (Kd.fresh' (Kd.R_lt (vR_ HO1127.out)) k_ hk_.2.1), (Kd.fresh' (Kd.R_lt (vR_ HO1134.out)) k_ hk_.2.1), (Kd.fresh' (Kd.N_lt (vN_ HO1143.out)) k_ hk_.2.1), (Kd.fresh' (Kd.N_lt (vN_ HO1146.out)) k_ hk_.2.1), (Kd.fresh' (Kd.N_lt (vN_ HO1150.out)) k_ hk_.2.1), (Kd.fresh' (Kd.N_lt (vN_ HO1155.out)) k_ hk_.2.1), (Kd.freshB (g := gb1112) (o := .cells #[.int .i64 t1105, .slice Ao41 t1106.length co41, .bool t1109, .bool t1110, .int .i64 t1111] 28 (0, 0)) (vb_ BK1112.out) k_ hk_.2.1), (Kd.freshB (g := gb1123) (o := .cells #[.int .i64 t1113, .slice Ao46 t1114.length co46, .bool t1117, .bool t1118, .int .i64 t1119] 28 (0, 0)) (vb_ BK1123.out) k_ hk_.2.1), (Kd.freshB (g := gb1138) (o := .cells #[.int .i64 t1124, .slice Ao54 t1125.length co54, .bool t1128, .bool t1129, .int .i64 t1130] 28 (0, 0)) (vb_ BK1138.out) k_ hk_.2.1), (Kd.freshB (g := gb1139) (o := .cells #[.int .i64 t1131, .slice Ao58 t1132.length co58, .bool t1135, .bool t1136, .int .i64 t1137] 28 (0, 0)) (vb_ BK1139.out) k_ hk_.2.1)⟩)) (below_size (by repeat (first | (with_reducible first | exact HB.out | apply below_alloc | apply pw_below_drewN | apply below_drew1 | refine below_set ?_ GE1112.out | refine below_set ?_ GE1123.out | refine below_set ?_ GE1138.out | refine below_set ?_ GE1139.out) | exact HB.out)))); replace HO1143 := A_ (Kd.N_mono (Kd.N_told (Kd.N_told (Kd.N_old (vN_ HO1143.out) hb) (kb_ ho0)) (kb_ ho1)) (fun _ h_ => h_.1)); replace HO1146 := A_ (Kd.N_mono (Kd.N_told (Kd.N_told (Kd.N_old (vN_ HO1146.out) hb) (kb_ ho0)) (kb_ ho1)) (fun _ h_ => h_.1)); replace HO1150 := A_ (Kd.N_mono (Kd.N_told (Kd.N_told (Kd.N_old (vN_ HO1150.out) hb) (kb_ ho0)) (kb_ ho1)) (fun _ h_ => h_.1)); replace HO1155 := A_ (Kd.N_mono (Kd.N_told (Kd.N_told (Kd.N_old (vN_ HO1155.out) hb) (kb_ ho0)) (kb_ ho1)) (fun _ h_ => h_.1)); have HO1161 := A_ (Kd.R_lower (Kd.R_new' (Kd.R_new' (Kd.R_new' (Kd.R_new' (Kd.R_new' ho1 (Kd.R_lt (vR_ HO1108.out))) (Kd.R_lt (vR_ HO1116.out))) (Kd.R_lt (vR_ HO1122.out))) (Kd.R_lt (vR_ HO1127.out))) (Kd.R_lt (vR_ HO1134.out))) (below_size (by repeat (first | (with_reducible first | exact HB.out | apply below_alloc | apply pw_below_drewN | apply below_drew1 | refine below_set ?_ GE1112.out | refine below_set ?_ GE1123.out | refine below_set ?_ GE1138.out | refine below_set ?_ GE1139.out) | exact HB.out)))); replace HO1108 := A_ (Kd.R_elder' (vR_ HO1108.out) (kb_ ho1) hb); replace HO1116 := A_ (Kd.R_elder' (vR_ HO1116.out) (kb_ ho1) hb); replace HO1122 := A_ (Kd.R_elder' (vR_ HO1122.out) (kb_ ho1) hb); replace HO1127 := A_ (Kd.R_elder' (vR_ HO1127.out) (kb_ ho1) hb); replace HO1134 := A_ (Kd.R_elder' (vR_ HO1134.out) (kb_ ho1) hb); replace BK1112 := A_ (bw_ BK1112.out hb); replace BK1123 := A_ (bw_ BK1123.out hb); replace BK1138 := A_ (bw_ BK1138.out hb); replace BK1139 := A_ (bw_ BK1139.out hb); replace HB := A_ (below_step (by repeat (first | (with_reducible first | exact HB.out | apply below_alloc | apply pw_below_drewN | apply below_drew1 | refine below_set ?_ GE1112.out | refine below_set ?_ GE1123.out | refine below_set ?_ GE1138.out | refine below_set ?_ GE1139.out) | exact HB.out)) hb); (try clear hb); (try clear ho0); (try clear ho1)) | ((with_reducible refine gate_callee (f := 60) rfl ?_); refine gL_ (some 65) Try.func60 #[.slice A0 l0.length c0] ?_; (with_reducible refine (spec_DrawMayTurn.calls k _ _ l0 t1162 t1163 t1164 t1165 _ ?s1 ?s2 A12.out).mono ?_); (case s1 => exact cC_ (Kd.C_below HR0.out HB.out)); (case s2 => exact HC0.out); rintro e w65 ⟨v1166, v1168, v1170, rfl, ho0, ho1, ho2, hb⟩; refine ⟨_, rfl, ?_⟩; have HO1167 := A_ (Kd.N_lower (Kd.N_mono (ok' := fun k_ => some k_ ≠ (v1168 : Value).ownBlock ∧ some k_ ≠ (v1170 : Value).ownBlock ∧ some k_ ≠ (.slice Ao41 t1106.length co41 : Value).ownBlock ∧ some k_ ≠ (.slice Ao46 t1114.length co46 : Value).ownBlock ∧ some k_ ≠ (v1121 : Value).ownBlock ∧ some k_ ≠ (.slice Ao54 t1125.length co54 : Value).ownBlock ∧ some k_ ≠ (.slice Ao58 t1132.length co58 : Value).ownBlock ∧ some k_ ≠ (.slice Ao60 t1140.length co60 : Value).ownBlock ∧ some k_ ≠ (v1145 : Value).ownBlock ∧ some k_ ≠ (v1149 : Value).ownBlock ∧ some k_ ≠ (v1154 : Value).ownBlock ∧ some k_ ≠ (v1158 : Value).ownBlock ∧ some k_ ≠ (v1160 : Value).ownBlock ∧ k_ ≠ gb1112 ∧ k_ ≠ gb1123 ∧ k_ ≠ gb1138 ∧ k_ ≠ gb1139) (Kd.S_N (Kd.S_bound (Kd.S_apart' ho0 (Kd.R_typed ho2) (by decide)))) (fun k_ hk_ => ⟨hk_.1.1, hk_.1.2, (Kd.fresh' (Kd.R_lt (vR_ HO1108.out)) k_ hk_.2.1), (Kd.fresh' (Kd.R_lt (vR_ HO1116.out)) k_ hk_.2.1), (Kd.fresh' (Kd.R_lt (vR_ HO1122.out)) k_ hk_.2.1), (Kd.fresh' (Kd.R_lt (vR_ HO1127.out)) k_ hk_.2.1), (Kd.fresh' (Kd.R_lt (vR_ HO1134.out)) k_ hk_.2.1), (Kd.fresh' (Kd.N_lt (vN_ HO1143.out)) k_ hk_.2.1), (Kd.fresh' (Kd.N_lt (vN_ HO1146.out)) k_ hk_.2.1), (Kd.fresh' (Kd.N_lt (vN_ HO1150.out)) k_ hk_.2.1), (Kd.fresh' (Kd.N_lt (vN_ HO1155.out)) k_ hk_.2.1), (Kd.fresh' (Kd.N_lt (vN_ HO1159.out)) k_ hk_.2.1), (Kd.fresh' (Kd.R_lt (vR_ HO1161.out)) k_ hk_.2.1), (Kd.freshB (g := gb1112) (o := .cells #[.int .i64 t1105, .slice Ao41 t1106.length co41, .bool t1109, .bool t1110, .int .i64 t1111] 28 (0, 0)) (vb_ BK1112.out) k_ hk_.2.1), (Kd.freshB (g := gb1123) (o := .cells #[.int .i64 t1113, .slice Ao46 t1114.length co46, .bool t1117, .bool t1118, .int .i64 t1119] 28 (0, 0)) (vb_ BK1123.out) k_ hk_.2.1), (Kd.freshB (g := gb1138) (o := .cells #[.int .i64 t1124, .slice Ao54 t1125.length co54, .bool t1128, .bool t1129, .int .i64 t1130] 28 (0, 0)) (vb_ BK1138.out) k_ hk_.2.1), (Kd.freshB (g := gb1139) (o := .cells #[.int .i64 t1131, .slice Ao58 t1132.length co58, .bool t1135, .bool t1136, .int .i64 t1137] 28 (0, 0)) (vb_ BK1139.out) k_ hk_.2.1)⟩)) (below_size (by repeat (first | (with_reducible first | exact HB.out | apply below_alloc | apply pw_below_drewN | apply below_drew1 | refine below_set ?_ GE1112.out | refine below_set ?_ GE1123.out | refine below_set ?_ GE1138.out | refine below_set ?_ GE1139.out) | exact HB.out)))); replace HO1143 := A_ (Kd.N_mono (Kd.N_told (Kd.N_told (Kd.N_told (Kd.N_old (vN_ HO1143.out) hb) (kb_ ho0)) (kb_ ho1)) (kb_ ho2)) (fun _ h_ => h_.1)); replace HO1146 := A_ (Kd.N_mono (Kd.N_told (Kd.N_told (Kd.N_told (Kd.N_old (vN_ HO1146.out) hb) (kb_ ho0)) (kb_ ho1)) (kb_ ho2)) (fun _ h_ => h_.1)); replace HO1150 := A_ (Kd.N_mono (Kd.N_told (Kd.N_told (Kd.N_told (Kd.N_old (vN_ HO1150.out) hb) (kb_ ho0)) (kb_ ho1)) (kb_ ho2)) (fun _ h_ => h_.1)); replace HO1155 := A_ (Kd.N_mono (Kd.N_told (Kd.N_told (Kd.N_told (Kd.N_old (vN_ HO1155.out) hb) (kb_ ho0)) (kb_ ho1)) (kb_ ho2)) (fun _ h_ => h_.1)); replace HO1159 := A_ (Kd.N_mono (Kd.N_told (Kd.N_told (Kd.N_told (Kd.N_old (vN_ HO1159.out) hb) (kb_ ho0)) (kb_ ho1)) (kb_ ho2)) (fun _ h_ => h_.1)); have HO1169 := A_ (Kd.R_lower (Kd.R_new' (Kd.R_new' (Kd.R_new' (Kd.R_new' (Kd.R_new' (Kd.R_new' ho1 (Kd.R_lt (vR_ HO1108.out))) (Kd.R_lt (vR_ HO1116.out))) (Kd.R_lt (vR_ HO1122.out))) (Kd.R_lt (vR_ HO1127.out))) (Kd.R_lt (vR_ HO1134.out))) (Kd.R_lt (vR_ HO1161.out))) (below_size (by repeat (first | (with_reducible first | exact HB.out | apply below_alloc | apply pw_below_drewN | apply below_drew1 | refine below_set ?_ GE1112.out | refine below_set ?_ GE1123.out | refine below_set ?_ GE1138.out | refine below_set ?_ GE1139.out) | exact HB.out)))); replace HO1108 := A_ (Kd.R_elder' (vR_ HO1108.out) (kb_ ho1) hb); replace HO1116 := A_ (Kd.R_elder' (vR_ HO1116.out) (kb_ ho1) hb); replace HO1122 := A_ (Kd.R_elder' (vR_ HO1122.out) (kb_ ho1) hb); replace HO1127 := A_ (Kd.R_elder' (vR_ HO1127.out) (kb_ ho1) hb); replace HO1134 := A_ (Kd.R_elder' (vR_ HO1134.out) (kb_ ho1) hb); replace HO1161 := A_ (Kd.R_elder' (vR_ HO1161.out) (kb_ ho1) hb); have HO1171 := A_ (Kd.R_lower ho2 (below_size (by repeat (first | (with_reducible first | exact HB.out | apply below_alloc | apply pw_below_drewN | apply below_drew1 | refine below_set ?_ GE1112.out | refine below_set ?_ GE1123.out | refine below_set ?_ GE1138.out | refine below_set ?_ GE1139.out) | exact HB.out)))); replace BK1112 := A_ (bw_ BK1112.out hb); replace BK1123 := A_ (bw_ BK1123.out hb); replace BK1138 := A_ (bw_ BK1138.out hb); replace BK1139 := A_ (bw_ BK1139.out hb); replace HB := A_ (below_step (by repeat (first | (with_reducible first | exact HB.out | apply below_alloc | apply pw_below_drewN | apply below_drew1 | refine below_set ?_ GE1112.out | refine below_set ?_ GE1123.out | refine below_set ?_ GE1138.out | refine below_set ?_ GE1139.out) | exact HB.out)) hb); (try clear hb); (try clear ho0); (try clear ho1); (try clear ho2)))
         replace HO1108 := A_ (Kd.R_drew HO1108.out)
         replace HO1116 := A_ (Kd.R_drew HO1116.out)
         replace HO1122 := A_ (Kd.R_drew HO1122.out)
         replace HO1127 := A_ (Kd.R_drew HO1127.out)
         replace HO1134 := A_ (Kd.R_drew HO1134.out)
         replace HO1143 := A_ (Kd.N_drew HO1143.out)
         replace HO1146 := A_ (Kd.N_drew HO1146.out)
         replace HO1150 := A_ (Kd.N_drew HO1150.out)
         replace HO1155 := A_ (Kd.N_drew HO1155.out)
         replace HO1159 := A_ (Kd.N_drew HO1159.out)
         replace HO1161 := A_ (Kd.R_drew HO1161.out)
         replace HO1167 := A_ (Kd.N_drew HO1167.out)
         replace HO1169 := A_ (Kd.R_drew HO1169.out)
         replace HO1171 := A_ (Kd.R_drew HO1171.out)
         replace BK1112 := A_ (blk_drew BK1112.out)
         replace BK1123 := A_ (blk_drew BK1123.out)
         replace BK1138 := A_ (blk_drew BK1138.out)
         replace BK1139 := A_ (blk_drew BK1139.out)
         replace HB := A_ (below_drew1 HB.out)
         refine start_ (n := 74) (S := fun w' => w'.cell? ⟨gb1112, 0, none⟩ = some (.int .i64 t1105) ∧ w'.cell? ⟨gb1112, 1, none⟩ = some (.slice Ao41 t1106.length co41) ∧ w'.cell? ⟨gb1112, 2, none⟩ = some (.bool t1109) ∧ w'.cell? ⟨gb1112, 3, none⟩ = some (.bool t1110) ∧ w'.cell? ⟨gb1112, 4, none⟩ = some (.int .i64 t1111) ∧ w'.cell? ⟨gb1123, 0, none⟩ = some (.int .i64 t1113) ∧ w'.cell? ⟨gb1123, 1, none⟩ = some (.slice Ao46 t1114.length co46) ∧ w'.cell? ⟨gb1123, 2, none⟩ = some (.bool t1117) ∧ w'.cell? ⟨gb1123, 3, none⟩ = some (.bool t1118) ∧ w'.cell? ⟨gb1123, 4, none⟩ = some (.int .i64 t1119) ∧ w'.cell? ⟨gb1138, 0, none⟩ = some (.int .i64 t1124) ∧ w'.cell? ⟨gb1138, 1, none⟩ = some (.slice Ao54 t1125.length co54) ∧ w'.cell? ⟨gb1138, 2, none⟩ = some (.bool t1128) ∧ w'.cell? ⟨gb1138, 3, none⟩ = some (.bool t1129) ∧ w'.cell? ⟨gb1138, 4, none⟩ = some (.int .i64 t1130) ∧ w'.cell? ⟨gb1139, 0, none⟩ = some (.int .i64 t1131) ∧ w'.cell? ⟨gb1139, 1, none⟩ = some (.slice Ao58 t1132.length co58) ∧ w'.cell? ⟨gb1139, 2, none⟩ = some (.bool t1135) ∧ w'.cell? ⟨gb1139, 3, none⟩ = some (.bool t1136) ∧ w'.cell? ⟨gb1139, 4, none⟩ = some (.int .i64 t1137)) (ds := []) #[false, false, false, false, false, false, false, false, false, false, false, false, false, false, false, false, false, false, false, false, false, false, false, false, false, false, false, false, false, false, false, false, false, false, false, false, false, false, false, false, false, false, false, false, false, false, false, false, false, false, false, false, false, false, false, false, false, false, false, false, false, false, false, false, false, false, false, false, false, false, false, false, false, false] (by kernel_rfl) rfl rfl ⟨(blk_cell BK1112.out 0).trans rfl, (blk_cell BK1112.out 1).trans rfl, (blk_cell BK1112.out 2).trans rfl, (blk_cell BK1112.out 3).trans rfl, (blk_cell BK1112.out 4).trans rfl, (blk_cell BK1123.out 0).trans rfl, (blk_cell BK1123.out 1).trans rfl, (blk_cell BK1123.out 2).trans rfl, (blk_cell BK1123.out 3).trans rfl, (blk_cell BK1123.out 4).trans rfl, (blk_cell BK1138.out 0).trans rfl, (blk_cell BK1138.out 1).trans rfl, (blk_cell BK1138.out 2).trans rfl, (blk_cell BK1138.out 3).trans rfl, (blk_cell BK1138.out 4).trans rfl, (blk_cell BK1139.out 0).trans rfl, (blk_cell BK1139.out 1).trans rfl, (blk_cell BK1139.out 2).trans rfl, (blk_cell BK1139.out 3).trans rfl, (blk_cell BK1139.out 4).trans rfl⟩ (fun hHeld => ?_); refine with_tabW laws_FnLocksBent.tab12 laws_FnLocksBent.bits12 (fun HT_ HW_ => ?_)
         generalize w65.drew = w66 at HO1108 HO1116 HO1122 HO1127 HO1134 HO1143 HO1146 HO1150 HO1155 HO1159 HO1161 HO1167 HO1169 HO1171 BK1112 BK1123 BK1138 BK1139 HB hHeld ⊢
         refine tk_ (i := 0) (N := some 70) hHeld ?_
         refine tk_ (i := 2) (N := some 72) hHeld ?_
         refine on_ (i := 1) (N := some 71) (fun K hK => ?_)
         refine goes_ Try.func44 (by kernel_rfl) rfl #[.agg #[.int .i64 t1105, .slice Ao41 t1106.length co41, .bool t1109, .bool t1110, .int .i64 t1111]] (by rfl) rfl rfl ml_ ?_
         with_reducible refine (impl_LockOk.calls k t1105 _ _ t1106 t1109 t1110 t1111 t1172 _ ?s1 ?s2 A13.out).mono ?_
         (case s1 => exact cC_ (Kd.R_reads' HO1108.out).2.2)
         (case s2 => exact (Kd.R_reads' HO1108.out).2.1)
         rintro e w67 ⟨rfl, hb⟩
         refine ⟨_, rfl, ?_⟩
         replace HO1108 := A_ (Kd.R_below (vR_ HO1108.out) hb)
         replace HO1116 := A_ (Kd.R_below (vR_ HO1116.out) hb)
         replace HO1122 := A_ (Kd.R_below (vR_ HO1122.out) hb)
         replace HO1127 := A_ (Kd.R_below (vR_ HO1127.out) hb)
         replace HO1134 := A_ (Kd.R_below (vR_ HO1134.out) hb)
         replace HO1143 := A_ (Kd.N_below (vN_ HO1143.out) hb)
         replace HO1146 := A_ (Kd.N_below (vN_ HO1146.out) hb)
         replace HO1150 := A_ (Kd.N_below (vN_ HO1150.out) hb)
         replace HO1155 := A_ (Kd.N_below (vN_ HO1155.out) hb)
         replace HO1159 := A_ (Kd.N_below (vN_ HO1159.out) hb)
         replace HO1161 := A_ (Kd.R_below (vR_ HO1161.out) hb)
         replace HO1167 := A_ (Kd.N_below (vN_ HO1167.out) hb)
         replace HO1169 := A_ (Kd.R_below (vR_ HO1169.out) hb)
         replace HO1171 := A_ (Kd.R_below (vR_ HO1171.out) hb)
         replace BK1112 := A_ (bw_ BK1112.out hb)
         replace BK1123 := A_ (bw_ BK1123.out hb)
         replace BK1138 := A_ (bw_ BK1138.out hb)
         replace BK1139 := A_ (bw_ BK1139.out hb)
         replace HB := A_ (below_step (by repeat (first | (with_reducible first | exact HB.out | apply below_alloc | apply pw_below_drewN | apply below_drew1 | refine below_set ?_ GE1112.out | refine below_set ?_ GE1123.out | refine below_set ?_ GE1138.out | refine below_set ?_ GE1139.out) | exact HB.out)) hb)
         (try clear hb)
         (try clear hb2)
         (try clear hk)
         (try clear hi)
         refine hK.out _ _ ⟨(blk_cell BK1112.out 0).trans rfl, (blk_cell BK1112.out 1).trans rfl, (blk_cell BK1112.out 2).trans rfl, (blk_cell BK1112.out 3).trans rfl, (blk_cell BK1112.out 4).trans rfl, (blk_cell BK1123.out 0).trans rfl, (blk_cell BK1123.out 1).trans rfl, (blk_cell BK1123.out 2).trans rfl, (blk_cell BK1123.out 3).trans rfl, (blk_cell BK1123.out 4).trans rfl, (blk_cell BK1138.out 0).trans rfl, (blk_cell BK1138.out 1).trans rfl, (blk_cell BK1138.out 2).trans rfl, (blk_cell BK1138.out 3).trans rfl, (blk_cell BK1138.out 4).trans rfl, (blk_cell BK1139.out 0).trans rfl, (blk_cell BK1139.out 1).trans rfl, (blk_cell BK1139.out 2).trans rfl, (blk_cell BK1139.out 3).trans rfl, (blk_cell BK1139.out 4).trans rfl⟩ (fun hHeld => ?_)
         clear hK K
         refine no_ (some 71) ?_
         refine on_ (i := 3) (N := some 73) (fun K hK => ?_)
         refine goes_ Try.func43 (by kernel_rfl) rfl #[.agg #[.int .i64 t1105, .slice Ao41 t1106.length co41, .bool t1109, .bool t1110, .int .i64 t1111]] (by rfl) rfl rfl ml_ ?_
         with_reducible refine (spec_LockOk.calls k t1105 _ _ t1106 t1109 t1110 t1111 t1173 _ ?s1 ?s2 A14.out).mono ?_
         (case s1 => exact cC_ (Kd.R_reads' HO1108.out).2.2)
         (case s2 => exact (Kd.R_reads' HO1108.out).2.1)
         rintro e w68 ⟨rfl, hb⟩
         refine ⟨_, rfl, ?_⟩
         replace HO1108 := A_ (Kd.R_below (vR_ HO1108.out) hb)
         replace HO1116 := A_ (Kd.R_below (vR_ HO1116.out) hb)
         replace HO1122 := A_ (Kd.R_below (vR_ HO1122.out) hb)
         replace HO1127 := A_ (Kd.R_below (vR_ HO1127.out) hb)
         replace HO1134 := A_ (Kd.R_below (vR_ HO1134.out) hb)
         replace HO1143 := A_ (Kd.N_below (vN_ HO1143.out) hb)
         replace HO1146 := A_ (Kd.N_below (vN_ HO1146.out) hb)
         replace HO1150 := A_ (Kd.N_below (vN_ HO1150.out) hb)
         replace HO1155 := A_ (Kd.N_below (vN_ HO1155.out) hb)
         replace HO1159 := A_ (Kd.N_below (vN_ HO1159.out) hb)
         replace HO1161 := A_ (Kd.R_below (vR_ HO1161.out) hb)
         replace HO1167 := A_ (Kd.N_below (vN_ HO1167.out) hb)
         replace HO1169 := A_ (Kd.R_below (vR_ HO1169.out) hb)
         replace HO1171 := A_ (Kd.R_below (vR_ HO1171.out) hb)
         replace BK1112 := A_ (bw_ BK1112.out hb)
         replace BK1123 := A_ (bw_ BK1123.out hb)
         replace BK1138 := A_ (bw_ BK1138.out hb)
         replace BK1139 := A_ (bw_ BK1139.out hb)
         replace HB := A_ (below_step (by repeat (first | (with_reducible first | exact HB.out | apply below_alloc | apply pw_below_drewN | apply below_drew1 | refine below_set ?_ GE1112.out | refine below_set ?_ GE1123.out | refine below_set ?_ GE1138.out | refine below_set ?_ GE1139.out) | exact HB.out)) hb)
         (try clear hb)
         (try clear hb2)
         (try clear hk)
         (try clear hi)
         obtain ⟨Ao69, co69, eo69⟩ := Kd.R_slice HO1122.out
         (first | subst eo69 | (injection eo69 with f1_ f2_ f3_; have f4_ := f1_.symm; have f5_ := f3_.symm; clear f1_ f2_ f3_; subst f4_; subst f5_))
         refine hK.out _ _ ⟨(blk_cell BK1112.out 0).trans rfl, (blk_cell BK1112.out 1).trans rfl, (blk_cell BK1112.out 2).trans rfl, (blk_cell BK1112.out 3).trans rfl, (blk_cell BK1112.out 4).trans rfl, (blk_cell BK1123.out 0).trans rfl, (blk_cell BK1123.out 1).trans rfl, (blk_cell BK1123.out 2).trans rfl, (blk_cell BK1123.out 3).trans rfl, (blk_cell BK1123.out 4).trans rfl, (blk_cell BK1138.out 0).trans rfl, (blk_cell BK1138.out 1).trans rfl, (blk_cell BK1138.out 2).trans rfl, (blk_cell BK1138.out 3).trans rfl, (blk_cell BK1138.out 4).trans rfl, (blk_cell BK1139.out 0).trans rfl, (blk_cell BK1139.out 1).trans rfl, (blk_cell BK1139.out 2).trans rfl, (blk_cell BK1139.out 3).trans rfl, (blk_cell BK1139.out 4).trans rfl⟩ (fun hHeld => ?_)
         clear hK K
         refine no_ (some 73) ?_
         refine pu_ (i := 4) (N := some 74) ?_
         refine pu_ (i := 5) (N := some 75) ?_
         refine pu_ (i := 7) (N := some 77) ?_
         refine pu_ (i := 10) (N := some 80) ?_
         refine tk_ (i := 6) (N := some 76) hHeld ?_
         refine tk_ (i := 9) (N := some 79) hHeld ?_
         refine on_ (i := 8) (N := some 78) (fun K hK => ?_)
         refine goes_ Try.func20 (by kernel_rfl) rfl #[.agg #[.int .i64 t1113, .slice Ao46 t1114.length co46, .bool t1117, .bool t1118, .int .i64 t1119], .slice Ao69 t1120.length co69] (by rfl) rfl rfl ml_ ?_
         with_reducible refine (impl_Covers.calls k t1113 _ _ t1114 t1117 t1118 t1119 _ _ t1120 t1174 _ ?s1 ?s2 ?s3 ?s4 A16.out).mono ?_
         (case s1 => exact cC_ (Kd.R_reads' HO1116.out).2.2)
         (case s2 => exact (Kd.R_reads' HO1116.out).2.1)
         (case s3 => exact cC_ (Kd.R_reads' HO1122.out).2.2)
         (case s4 => exact (Kd.R_reads' HO1122.out).2.1)
         rintro e w70 ⟨rfl, hb⟩
         refine ⟨_, rfl, ?_⟩
         replace HO1108 := A_ (Kd.R_below (vR_ HO1108.out) hb)
         replace HO1116 := A_ (Kd.R_below (vR_ HO1116.out) hb)
         replace HO1122 := A_ (Kd.R_below (vR_ HO1122.out) hb)
         replace HO1127 := A_ (Kd.R_below (vR_ HO1127.out) hb)
         replace HO1134 := A_ (Kd.R_below (vR_ HO1134.out) hb)
         replace HO1143 := A_ (Kd.N_below (vN_ HO1143.out) hb)
         replace HO1146 := A_ (Kd.N_below (vN_ HO1146.out) hb)
         replace HO1150 := A_ (Kd.N_below (vN_ HO1150.out) hb)
         replace HO1155 := A_ (Kd.N_below (vN_ HO1155.out) hb)
         replace HO1159 := A_ (Kd.N_below (vN_ HO1159.out) hb)
         replace HO1161 := A_ (Kd.R_below (vR_ HO1161.out) hb)
         replace HO1167 := A_ (Kd.N_below (vN_ HO1167.out) hb)
         replace HO1169 := A_ (Kd.R_below (vR_ HO1169.out) hb)
         replace HO1171 := A_ (Kd.R_below (vR_ HO1171.out) hb)
         replace BK1112 := A_ (bw_ BK1112.out hb)
         replace BK1123 := A_ (bw_ BK1123.out hb)
         replace BK1138 := A_ (bw_ BK1138.out hb)
         replace BK1139 := A_ (bw_ BK1139.out hb)
         replace HB := A_ (below_step (by repeat (first | (with_reducible first | exact HB.out | apply below_alloc | apply pw_below_drewN | apply below_drew1 | refine below_set ?_ GE1112.out | refine below_set ?_ GE1123.out | refine below_set ?_ GE1138.out | refine below_set ?_ GE1139.out) | exact HB.out)) hb)
         (try clear hb)
         (try clear hb2)
         (try clear hk)
         (try clear hi)
         refine hK.out _ _ ⟨(blk_cell BK1112.out 0).trans rfl, (blk_cell BK1112.out 1).trans rfl, (blk_cell BK1112.out 2).trans rfl, (blk_cell BK1112.out 3).trans rfl, (blk_cell BK1112.out 4).trans rfl, (blk_cell BK1123.out 0).trans rfl, (blk_cell BK1123.out 1).trans rfl, (blk_cell BK1123.out 2).trans rfl, (blk_cell BK1123.out 3).trans rfl, (blk_cell BK1123.out 4).trans rfl, (blk_cell BK1138.out 0).trans rfl, (blk_cell BK1138.out 1).trans rfl, (blk_cell BK1138.out 2).trans rfl, (blk_cell BK1138.out 3).trans rfl, (blk_cell BK1138.out 4).trans rfl, (blk_cell BK1139.out 0).trans rfl, (blk_cell BK1139.out 1).trans rfl, (blk_cell BK1139.out 2).trans rfl, (blk_cell BK1139.out 3).trans rfl, (blk_cell BK1139.out 4).trans rfl⟩ (fun hHeld => ?_)
         clear hK K
         refine no_ (some 78) ?_
         refine on_ (i := 11) (N := some 81) (fun K hK => ?_)
         refine goes_ Try.func17 (by kernel_rfl) rfl #[.agg #[.int .i64 t1113, .slice Ao46 t1114.length co46, .bool t1117, .bool t1118, .int .i64 t1119], .slice Ao69 t1120.length co69] (by rfl) rfl rfl ml_ ?_
         with_reducible refine (spec_Covers.calls k t1113 _ _ t1114 t1117 t1118 t1119 _ _ t1120 t1175 _ ?s1 ?s2 ?s3 ?s4 A17.out).mono ?_
         (case s1 => exact cC_ (Kd.R_reads' HO1116.out).2.2)
         (case s2 => exact (Kd.R_reads' HO1116.out).2.1)
         (case s3 => exact cC_ (Kd.R_reads' HO1122.out).2.2)
         (case s4 => exact (Kd.R_reads' HO1122.out).2.1)
         rintro e w71 ⟨rfl, hb⟩
         refine ⟨_, rfl, ?_⟩
         replace HO1108 := A_ (Kd.R_below (vR_ HO1108.out) hb)
         replace HO1116 := A_ (Kd.R_below (vR_ HO1116.out) hb)
         replace HO1122 := A_ (Kd.R_below (vR_ HO1122.out) hb)
         replace HO1127 := A_ (Kd.R_below (vR_ HO1127.out) hb)
         replace HO1134 := A_ (Kd.R_below (vR_ HO1134.out) hb)
         replace HO1143 := A_ (Kd.N_below (vN_ HO1143.out) hb)
         replace HO1146 := A_ (Kd.N_below (vN_ HO1146.out) hb)
         replace HO1150 := A_ (Kd.N_below (vN_ HO1150.out) hb)
         replace HO1155 := A_ (Kd.N_below (vN_ HO1155.out) hb)
         replace HO1159 := A_ (Kd.N_below (vN_ HO1159.out) hb)
         replace HO1161 := A_ (Kd.R_below (vR_ HO1161.out) hb)
         replace HO1167 := A_ (Kd.N_below (vN_ HO1167.out) hb)
         replace HO1169 := A_ (Kd.R_below (vR_ HO1169.out) hb)
         replace HO1171 := A_ (Kd.R_below (vR_ HO1171.out) hb)
         replace BK1112 := A_ (bw_ BK1112.out hb)
         replace BK1123 := A_ (bw_ BK1123.out hb)
         replace BK1138 := A_ (bw_ BK1138.out hb)
         replace BK1139 := A_ (bw_ BK1139.out hb)
         replace HB := A_ (below_step (by repeat (first | (with_reducible first | exact HB.out | apply below_alloc | apply pw_below_drewN | apply below_drew1 | refine below_set ?_ GE1112.out | refine below_set ?_ GE1123.out | refine below_set ?_ GE1138.out | refine below_set ?_ GE1139.out) | exact HB.out)) hb)
         (try clear hb)
         (try clear hb2)
         (try clear hk)
         (try clear hi)
         refine hK.out _ _ ⟨(blk_cell BK1112.out 0).trans rfl, (blk_cell BK1112.out 1).trans rfl, (blk_cell BK1112.out 2).trans rfl, (blk_cell BK1112.out 3).trans rfl, (blk_cell BK1112.out 4).trans rfl, (blk_cell BK1123.out 0).trans rfl, (blk_cell BK1123.out 1).trans rfl, (blk_cell BK1123.out 2).trans rfl, (blk_cell BK1123.out 3).trans rfl, (blk_cell BK1123.out 4).trans rfl, (blk_cell BK1138.out 0).trans rfl, (blk_cell BK1138.out 1).trans rfl, (blk_cell BK1138.out 2).trans rfl, (blk_cell BK1138.out 3).trans rfl, (blk_cell BK1138.out 4).trans rfl, (blk_cell BK1139.out 0).trans rfl, (blk_cell BK1139.out 1).trans rfl, (blk_cell BK1139.out 2).trans rfl, (blk_cell BK1139.out 3).trans rfl, (blk_cell BK1139.out 4).trans rfl⟩ (fun hHeld => ?_)
         clear hK K
         refine no_ (some 81) ?_
         refine pu_ (i := 12) (N := some 82) ?_
         refine pu_ (i := 13) (N := some 83) ?_
         refine pu_ (i := 14) (N := some 84) ?_
         refine tk_ (i := 15) (N := some 85) hHeld ?_
         refine tk_ (i := 16) (N := some 86) hHeld ?_
         refine tk_ (i := 18) (N := some 88) hHeld ?_
         refine tk_ (i := 19) (N := some 89) hHeld ?_
         refine on_ (i := 17) (N := some 87) (fun K hK => ?_)
         refine goes_ Try.func24 (by kernel_rfl) rfl #[.agg #[.int .i64 t1124, .slice Ao54 t1125.length co54, .bool t1128, .bool t1129, .int .i64 t1130], .agg #[.int .i64 t1131, .slice Ao58 t1132.length co58, .bool t1135, .bool t1136, .int .i64 t1137]] (by rfl) rfl rfl ml_ ?_
         with_reducible refine (impl_LockClash.calls k t1124 _ _ t1125 t1128 t1129 t1130 t1131 _ _ t1132 t1135 t1136 t1137 t1176 _ ?s1 ?s2 ?s3 ?s4 A19.out).mono ?_
         (case s1 => exact cC_ (Kd.R_reads' HO1127.out).2.2)
         (case s2 => exact (Kd.R_reads' HO1127.out).2.1)
         (case s3 => exact cC_ (Kd.R_reads' HO1134.out).2.2)
         (case s4 => exact (Kd.R_reads' HO1134.out).2.1)
         rintro e w72 ⟨rfl, hb⟩
         refine ⟨_, rfl, ?_⟩
         replace HO1108 := A_ (Kd.R_below (vR_ HO1108.out) hb)
         replace HO1116 := A_ (Kd.R_below (vR_ HO1116.out) hb)
         replace HO1122 := A_ (Kd.R_below (vR_ HO1122.out) hb)
         replace HO1127 := A_ (Kd.R_below (vR_ HO1127.out) hb)
         replace HO1134 := A_ (Kd.R_below (vR_ HO1134.out) hb)
         replace HO1143 := A_ (Kd.N_below (vN_ HO1143.out) hb)
         replace HO1146 := A_ (Kd.N_below (vN_ HO1146.out) hb)
         replace HO1150 := A_ (Kd.N_below (vN_ HO1150.out) hb)
         replace HO1155 := A_ (Kd.N_below (vN_ HO1155.out) hb)
         replace HO1159 := A_ (Kd.N_below (vN_ HO1159.out) hb)
         replace HO1161 := A_ (Kd.R_below (vR_ HO1161.out) hb)
         replace HO1167 := A_ (Kd.N_below (vN_ HO1167.out) hb)
         replace HO1169 := A_ (Kd.R_below (vR_ HO1169.out) hb)
         replace HO1171 := A_ (Kd.R_below (vR_ HO1171.out) hb)
         replace BK1112 := A_ (bw_ BK1112.out hb)
         replace BK1123 := A_ (bw_ BK1123.out hb)
         replace BK1138 := A_ (bw_ BK1138.out hb)
         replace BK1139 := A_ (bw_ BK1139.out hb)
         replace HB := A_ (below_step (by repeat (first | (with_reducible first | exact HB.out | apply below_alloc | apply pw_below_drewN | apply below_drew1 | refine below_set ?_ GE1112.out | refine below_set ?_ GE1123.out | refine below_set ?_ GE1138.out | refine below_set ?_ GE1139.out) | exact HB.out)) hb)
         (try clear hb)
         (try clear hb2)
         (try clear hk)
         (try clear hi)
         refine hK.out _ _ ⟨(blk_cell BK1112.out 0).trans rfl, (blk_cell BK1112.out 1).trans rfl, (blk_cell BK1112.out 2).trans rfl, (blk_cell BK1112.out 3).trans rfl, (blk_cell BK1112.out 4).trans rfl, (blk_cell BK1123.out 0).trans rfl, (blk_cell BK1123.out 1).trans rfl, (blk_cell BK1123.out 2).trans rfl, (blk_cell BK1123.out 3).trans rfl, (blk_cell BK1123.out 4).trans rfl, (blk_cell BK1138.out 0).trans rfl, (blk_cell BK1138.out 1).trans rfl, (blk_cell BK1138.out 2).trans rfl, (blk_cell BK1138.out 3).trans rfl, (blk_cell BK1138.out 4).trans rfl, (blk_cell BK1139.out 0).trans rfl, (blk_cell BK1139.out 1).trans rfl, (blk_cell BK1139.out 2).trans rfl, (blk_cell BK1139.out 3).trans rfl, (blk_cell BK1139.out 4).trans rfl⟩ (fun hHeld => ?_)
         clear hK K
         refine no_ (some 87) ?_
         refine on_ (i := 20) (N := some 90) (fun K hK => ?_)
         refine goes_ Try.func23 (by kernel_rfl) rfl #[.agg #[.int .i64 t1124, .slice Ao54 t1125.length co54, .bool t1128, .bool t1129, .int .i64 t1130], .agg #[.int .i64 t1131, .slice Ao58 t1132.length co58, .bool t1135, .bool t1136, .int .i64 t1137]] (by rfl) rfl rfl ml_ ?_
         with_reducible refine (spec_LockClash.calls k t1124 _ _ t1125 t1128 t1129 t1130 t1131 _ _ t1132 t1135 t1136 t1137 t1177 _ ?s1 ?s2 ?s3 ?s4 A20.out).mono ?_
         (case s1 => exact cC_ (Kd.R_reads' HO1127.out).2.2)
         (case s2 => exact (Kd.R_reads' HO1127.out).2.1)
         (case s3 => exact cC_ (Kd.R_reads' HO1134.out).2.2)
         (case s4 => exact (Kd.R_reads' HO1134.out).2.1)
         rintro e w73 ⟨rfl, hb⟩
         refine ⟨_, rfl, ?_⟩
         replace HO1108 := A_ (Kd.R_below (vR_ HO1108.out) hb)
         replace HO1116 := A_ (Kd.R_below (vR_ HO1116.out) hb)
         replace HO1122 := A_ (Kd.R_below (vR_ HO1122.out) hb)
         replace HO1127 := A_ (Kd.R_below (vR_ HO1127.out) hb)
         replace HO1134 := A_ (Kd.R_below (vR_ HO1134.out) hb)
         replace HO1143 := A_ (Kd.N_below (vN_ HO1143.out) hb)
         replace HO1146 := A_ (Kd.N_below (vN_ HO1146.out) hb)
         replace HO1150 := A_ (Kd.N_below (vN_ HO1150.out) hb)
         replace HO1155 := A_ (Kd.N_below (vN_ HO1155.out) hb)
         replace HO1159 := A_ (Kd.N_below (vN_ HO1159.out) hb)
         replace HO1161 := A_ (Kd.R_below (vR_ HO1161.out) hb)
         replace HO1167 := A_ (Kd.N_below (vN_ HO1167.out) hb)
         replace HO1169 := A_ (Kd.R_below (vR_ HO1169.out) hb)
         replace HO1171 := A_ (Kd.R_below (vR_ HO1171.out) hb)
         replace BK1112 := A_ (bw_ BK1112.out hb)
         replace BK1123 := A_ (bw_ BK1123.out hb)
         replace BK1138 := A_ (bw_ BK1138.out hb)
         replace BK1139 := A_ (bw_ BK1139.out hb)
         replace HB := A_ (below_step (by repeat (first | (with_reducible first | exact HB.out | apply below_alloc | apply pw_below_drewN | apply below_drew1 | refine below_set ?_ GE1112.out | refine below_set ?_ GE1123.out | refine below_set ?_ GE1138.out | refine below_set ?_ GE1139.out) | exact HB.out)) hb)
         (try clear hb)
         (try clear hb2)
         (try clear hk)
         (try clear hi)
         refine hK.out _ _ ⟨(blk_cell BK1112.out 0).trans rfl, (blk_cell BK1112.out 1).trans rfl, (blk_cell BK1112.out 2).trans rfl, (blk_cell BK1112.out 3).trans rfl, (blk_cell BK1112.out 4).trans rfl, (blk_cell BK1123.out 0).trans rfl, (blk_cell BK1123.out 1).trans rfl, (blk_cell BK1123.out 2).trans rfl, (blk_cell BK1123.out 3).trans rfl, (blk_cell BK1123.out 4).trans rfl, (blk_cell BK1138.out 0).trans rfl, (blk_cell BK1138.out 1).trans rfl, (blk_cell BK1138.out 2).trans rfl, (blk_cell BK1138.out 3).trans rfl, (blk_cell BK1138.out 4).trans rfl, (blk_cell BK1139.out 0).trans rfl, (blk_cell BK1139.out 1).trans rfl, (blk_cell BK1139.out 2).trans rfl, (blk_cell BK1139.out 3).trans rfl, (blk_cell BK1139.out 4).trans rfl⟩ (fun hHeld => ?_)
         clear hK K
         refine no_ (some 90) ?_
         refine pu_ (i := 21) (N := some 91) ?_
         refine pu_ (i := 22) (N := some 92) ?_
         refine pu_ (i := 23) (N := some 93) ?_
         refine tk_ (i := 24) (N := some 94) hHeld ?_
         refine tk_ (i := 25) (N := some 95) hHeld ?_
         refine tk_ (i := 27) (N := some 97) hHeld ?_
         refine tk_ (i := 28) (N := some 98) hHeld ?_
         refine on_ (i := 26) (N := some 96) (fun K hK => ?_)
         refine goes_ Try.func24 (by kernel_rfl) rfl #[.agg #[.int .i64 t1124, .slice Ao54 t1125.length co54, .bool t1128, .bool t1129, .int .i64 t1130], .agg #[.int .i64 t1131, .slice Ao58 t1132.length co58, .bool t1135, .bool t1136, .int .i64 t1137]] (by rfl) rfl rfl ml_ ?_
         with_reducible refine (impl_LockClash.calls k t1124 _ _ t1125 t1128 t1129 t1130 t1131 _ _ t1132 t1135 t1136 t1137 t1178 _ ?s1 ?s2 ?s3 ?s4 A22.out).mono ?_
         (case s1 => exact cC_ (Kd.R_reads' HO1127.out).2.2)
         (case s2 => exact (Kd.R_reads' HO1127.out).2.1)
         (case s3 => exact cC_ (Kd.R_reads' HO1134.out).2.2)
         (case s4 => exact (Kd.R_reads' HO1134.out).2.1)
         rintro e w74 ⟨rfl, hb⟩
         refine ⟨_, rfl, ?_⟩
         replace HO1108 := A_ (Kd.R_below (vR_ HO1108.out) hb)
         replace HO1116 := A_ (Kd.R_below (vR_ HO1116.out) hb)
         replace HO1122 := A_ (Kd.R_below (vR_ HO1122.out) hb)
         replace HO1127 := A_ (Kd.R_below (vR_ HO1127.out) hb)
         replace HO1134 := A_ (Kd.R_below (vR_ HO1134.out) hb)
         replace HO1143 := A_ (Kd.N_below (vN_ HO1143.out) hb)
         replace HO1146 := A_ (Kd.N_below (vN_ HO1146.out) hb)
         replace HO1150 := A_ (Kd.N_below (vN_ HO1150.out) hb)
         replace HO1155 := A_ (Kd.N_below (vN_ HO1155.out) hb)
         replace HO1159 := A_ (Kd.N_below (vN_ HO1159.out) hb)
         replace HO1161 := A_ (Kd.R_below (vR_ HO1161.out) hb)
         replace HO1167 := A_ (Kd.N_below (vN_ HO1167.out) hb)
         replace HO1169 := A_ (Kd.R_below (vR_ HO1169.out) hb)
         replace HO1171 := A_ (Kd.R_below (vR_ HO1171.out) hb)
         replace BK1112 := A_ (bw_ BK1112.out hb)
         replace BK1123 := A_ (bw_ BK1123.out hb)
         replace BK1138 := A_ (bw_ BK1138.out hb)
         replace BK1139 := A_ (bw_ BK1139.out hb)
         replace HB := A_ (below_step (by repeat (first | (with_reducible first | exact HB.out | apply below_alloc | apply pw_below_drewN | apply below_drew1 | refine below_set ?_ GE1112.out | refine below_set ?_ GE1123.out | refine below_set ?_ GE1138.out | refine below_set ?_ GE1139.out) | exact HB.out)) hb)
         (try clear hb)
         (try clear hb2)
         (try clear hk)
         (try clear hi)
         refine hK.out _ _ ⟨(blk_cell BK1112.out 0).trans rfl, (blk_cell BK1112.out 1).trans rfl, (blk_cell BK1112.out 2).trans rfl, (blk_cell BK1112.out 3).trans rfl, (blk_cell BK1112.out 4).trans rfl, (blk_cell BK1123.out 0).trans rfl, (blk_cell BK1123.out 1).trans rfl, (blk_cell BK1123.out 2).trans rfl, (blk_cell BK1123.out 3).trans rfl, (blk_cell BK1123.out 4).trans rfl, (blk_cell BK1138.out 0).trans rfl, (blk_cell BK1138.out 1).trans rfl, (blk_cell BK1138.out 2).trans rfl, (blk_cell BK1138.out 3).trans rfl, (blk_cell BK1138.out 4).trans rfl, (blk_cell BK1139.out 0).trans rfl, (blk_cell BK1139.out 1).trans rfl, (blk_cell BK1139.out 2).trans rfl, (blk_cell BK1139.out 3).trans rfl, (blk_cell BK1139.out 4).trans rfl⟩ (fun hHeld => ?_)
         clear hK K
         refine no_ (some 96) ?_
         refine on_ (i := 29) (N := some 99) (fun K hK => ?_)
         refine goes_ Try.func24 (by kernel_rfl) rfl #[.agg #[.int .i64 t1131, .slice Ao58 t1132.length co58, .bool t1135, .bool t1136, .int .i64 t1137], .agg #[.int .i64 t1124, .slice Ao54 t1125.length co54, .bool t1128, .bool t1129, .int .i64 t1130]] (by rfl) rfl rfl ml_ ?_
         with_reducible refine (impl_LockClash.calls k t1131 _ _ t1132 t1135 t1136 t1137 t1124 _ _ t1125 t1128 t1129 t1130 t1179 _ ?s1 ?s2 ?s3 ?s4 A23.out).mono ?_
         (case s1 => exact cC_ (Kd.R_reads' HO1134.out).2.2)
         (case s2 => exact (Kd.R_reads' HO1134.out).2.1)
         (case s3 => exact cC_ (Kd.R_reads' HO1127.out).2.2)
         (case s4 => exact (Kd.R_reads' HO1127.out).2.1)
         rintro e w75 ⟨rfl, hb⟩
         refine ⟨_, rfl, ?_⟩
         replace HO1108 := A_ (Kd.R_below (vR_ HO1108.out) hb)
         replace HO1116 := A_ (Kd.R_below (vR_ HO1116.out) hb)
         replace HO1122 := A_ (Kd.R_below (vR_ HO1122.out) hb)
         replace HO1127 := A_ (Kd.R_below (vR_ HO1127.out) hb)
         replace HO1134 := A_ (Kd.R_below (vR_ HO1134.out) hb)
         replace HO1143 := A_ (Kd.N_below (vN_ HO1143.out) hb)
         replace HO1146 := A_ (Kd.N_below (vN_ HO1146.out) hb)
         replace HO1150 := A_ (Kd.N_below (vN_ HO1150.out) hb)
         replace HO1155 := A_ (Kd.N_below (vN_ HO1155.out) hb)
         replace HO1159 := A_ (Kd.N_below (vN_ HO1159.out) hb)
         replace HO1161 := A_ (Kd.R_below (vR_ HO1161.out) hb)
         replace HO1167 := A_ (Kd.N_below (vN_ HO1167.out) hb)
         replace HO1169 := A_ (Kd.R_below (vR_ HO1169.out) hb)
         replace HO1171 := A_ (Kd.R_below (vR_ HO1171.out) hb)
         replace BK1112 := A_ (bw_ BK1112.out hb)
         replace BK1123 := A_ (bw_ BK1123.out hb)
         replace BK1138 := A_ (bw_ BK1138.out hb)
         replace BK1139 := A_ (bw_ BK1139.out hb)
         replace HB := A_ (below_step (by repeat (first | (with_reducible first | exact HB.out | apply below_alloc | apply pw_below_drewN | apply below_drew1 | refine below_set ?_ GE1112.out | refine below_set ?_ GE1123.out | refine below_set ?_ GE1138.out | refine below_set ?_ GE1139.out) | exact HB.out)) hb)
         (try clear hb)
         (try clear hb2)
         (try clear hk)
         (try clear hi)
         obtain ⟨Ao76, co76, eo76⟩ := Kd.N_slice HO1146.out
         (first | subst eo76 | (injection eo76 with f1_ f2_ f3_; have f4_ := f1_.symm; have f5_ := f3_.symm; clear f1_ f2_ f3_; subst f4_; subst f5_))
         obtain ⟨Ao77, co77, eo77⟩ := Kd.N_slice HO1150.out
         (first | subst eo77 | (injection eo77 with f1_ f2_ f3_; have f4_ := f1_.symm; have f5_ := f3_.symm; clear f1_ f2_ f3_; subst f4_; subst f5_))
         refine hK.out _ _ ⟨(blk_cell BK1112.out 0).trans rfl, (blk_cell BK1112.out 1).trans rfl, (blk_cell BK1112.out 2).trans rfl, (blk_cell BK1112.out 3).trans rfl, (blk_cell BK1112.out 4).trans rfl, (blk_cell BK1123.out 0).trans rfl, (blk_cell BK1123.out 1).trans rfl, (blk_cell BK1123.out 2).trans rfl, (blk_cell BK1123.out 3).trans rfl, (blk_cell BK1123.out 4).trans rfl, (blk_cell BK1138.out 0).trans rfl, (blk_cell BK1138.out 1).trans rfl, (blk_cell BK1138.out 2).trans rfl, (blk_cell BK1138.out 3).trans rfl, (blk_cell BK1138.out 4).trans rfl, (blk_cell BK1139.out 0).trans rfl, (blk_cell BK1139.out 1).trans rfl, (blk_cell BK1139.out 2).trans rfl, (blk_cell BK1139.out 3).trans rfl, (blk_cell BK1139.out 4).trans rfl⟩ (fun hHeld => ?_)
         clear hK K
         refine no_ (some 99) ?_
         refine pu_ (i := 30) (N := some 100) ?_
         refine pu_ (i := 31) (N := some 101) ?_
         refine pu_ (i := 32) (N := some 102) ?_
         refine pu_ (i := 33) (N := some 103) ?_
         refine pu_ (i := 34) (N := some 104) ?_
         refine pu_ (i := 35) (N := some 105) ?_
         refine pu_ (i := 36) (N := some 106) ?_
         refine pu_ (i := 37) (N := some 107) ?_
         refine pu_ (i := 38) (N := some 108) ?_
         refine pu_ (i := 39) (N := some 109) ?_
         refine on_ (i := 40) (N := some 110) (fun K hK => ?_)
         refine goes_ Try.func54 (by kernel_rfl) rfl #[.slice Ao76 t1144.length co76, .slice Ao77 t1148.length co77] (by rfl) rfl rfl ml_ ?_
         with_reducible refine (laws_sameLocks.calls k _ _ t1144 _ _ t1148 true _ ?s1 ?s2 ?s3 ?s4 A26.out).mono ?_
         (case s1 => exact cC_ (Kd.N_reads' HO1146.out).2.2)
         (case s2 => exact (Kd.N_reads' HO1146.out).2.1)
         (case s3 => exact cC_ (Kd.N_reads' HO1150.out).2.2)
         (case s4 => exact (Kd.N_reads' HO1150.out).2.1)
         rintro e w78 ⟨rfl, hb⟩
         refine ⟨_, rfl, ?_⟩
         replace HO1108 := A_ (Kd.R_below (vR_ HO1108.out) hb)
         replace HO1116 := A_ (Kd.R_below (vR_ HO1116.out) hb)
         replace HO1122 := A_ (Kd.R_below (vR_ HO1122.out) hb)
         replace HO1127 := A_ (Kd.R_below (vR_ HO1127.out) hb)
         replace HO1134 := A_ (Kd.R_below (vR_ HO1134.out) hb)
         replace HO1143 := A_ (Kd.N_below (vN_ HO1143.out) hb)
         replace HO1146 := A_ (Kd.N_below (vN_ HO1146.out) hb)
         replace HO1150 := A_ (Kd.N_below (vN_ HO1150.out) hb)
         replace HO1155 := A_ (Kd.N_below (vN_ HO1155.out) hb)
         replace HO1159 := A_ (Kd.N_below (vN_ HO1159.out) hb)
         replace HO1161 := A_ (Kd.R_below (vR_ HO1161.out) hb)
         replace HO1167 := A_ (Kd.N_below (vN_ HO1167.out) hb)
         replace HO1169 := A_ (Kd.R_below (vR_ HO1169.out) hb)
         replace HO1171 := A_ (Kd.R_below (vR_ HO1171.out) hb)
         replace BK1112 := A_ (bw_ BK1112.out hb)
         replace BK1123 := A_ (bw_ BK1123.out hb)
         replace BK1138 := A_ (bw_ BK1138.out hb)
         replace BK1139 := A_ (bw_ BK1139.out hb)
         replace HB := A_ (below_step (by repeat (first | (with_reducible first | exact HB.out | apply below_alloc | apply pw_below_drewN | apply below_drew1 | refine below_set ?_ GE1112.out | refine below_set ?_ GE1123.out | refine below_set ?_ GE1138.out | refine below_set ?_ GE1139.out) | exact HB.out)) hb)
         (try clear hb)
         (try clear hb2)
         (try clear hk)
         (try clear hi)
         obtain ⟨Ao79, co79, eo79⟩ := Kd.N_slice HO1155.out
         (first | subst eo79 | (injection eo79 with f1_ f2_ f3_; have f4_ := f1_.symm; have f5_ := f3_.symm; clear f1_ f2_ f3_; subst f4_; subst f5_))
         refine hK.out _ _ ⟨(blk_cell BK1112.out 0).trans rfl, (blk_cell BK1112.out 1).trans rfl, (blk_cell BK1112.out 2).trans rfl, (blk_cell BK1112.out 3).trans rfl, (blk_cell BK1112.out 4).trans rfl, (blk_cell BK1123.out 0).trans rfl, (blk_cell BK1123.out 1).trans rfl, (blk_cell BK1123.out 2).trans rfl, (blk_cell BK1123.out 3).trans rfl, (blk_cell BK1123.out 4).trans rfl, (blk_cell BK1138.out 0).trans rfl, (blk_cell BK1138.out 1).trans rfl, (blk_cell BK1138.out 2).trans rfl, (blk_cell BK1138.out 3).trans rfl, (blk_cell BK1138.out 4).trans rfl, (blk_cell BK1139.out 0).trans rfl, (blk_cell BK1139.out 1).trans rfl, (blk_cell BK1139.out 2).trans rfl, (blk_cell BK1139.out 3).trans rfl, (blk_cell BK1139.out 4).trans rfl⟩ (fun hHeld => ?_)
         clear hK K
         refine no_ (some 110) ?_
         refine pu_ (i := 41) (N := some 111) ?_
         refine pu_ (i := 42) (N := some 112) ?_
         refine pu_ (i := 43) (N := some 113) ?_
         refine pu_ (i := 44) (N := some 114) ?_
         refine pu_ (i := 46) (N := some 116) ?_
         refine pu_ (i := 47) (N := some 117) ?_
         refine on_ (i := 45) (N := some 115) (fun K hK => ?_)
         refine goes_ Try.func37 (by kernel_rfl) rfl #[.slice Ao79 t1152.length co79, .int .i64 t1153] (by rfl) rfl rfl ml_ ?_
         with_reducible refine (liveLocksN.calls k _ _ t1152 t1153 t1181 _ ?s1 ?s2 A28.out).mono ?_
         (case s1 => exact cC_ (Kd.N_reads' HO1155.out).2.2)
         (case s2 => exact (Kd.N_reads' HO1155.out).2.1)
         rintro e w80 ⟨v1182, rfl, ho0, hb⟩
         refine ⟨_, rfl, ?_⟩
         have HO1183 := A_ (Kd.N_lower (Kd.N_mono (ok' := fun k_ => some k_ ≠ (.slice Ao41 t1106.length co41 : Value).ownBlock ∧ some k_ ≠ (.slice Ao46 t1114.length co46 : Value).ownBlock ∧ some k_ ≠ (.slice Ao69 t1120.length co69 : Value).ownBlock ∧ some k_ ≠ (.slice Ao54 t1125.length co54 : Value).ownBlock ∧ some k_ ≠ (.slice Ao58 t1132.length co58 : Value).ownBlock ∧ some k_ ≠ (.slice Ao60 t1140.length co60 : Value).ownBlock ∧ some k_ ≠ (.slice Ao76 t1144.length co76 : Value).ownBlock ∧ some k_ ≠ (.slice Ao77 t1148.length co77 : Value).ownBlock ∧ some k_ ≠ (.slice Ao79 t1152.length co79 : Value).ownBlock ∧ some k_ ≠ (v1158 : Value).ownBlock ∧ some k_ ≠ (v1160 : Value).ownBlock ∧ some k_ ≠ (v1166 : Value).ownBlock ∧ some k_ ≠ (v1168 : Value).ownBlock ∧ some k_ ≠ (v1170 : Value).ownBlock ∧ k_ ≠ gb1112 ∧ k_ ≠ gb1123 ∧ k_ ≠ gb1138 ∧ k_ ≠ gb1139) ho0 (fun k_ hk_ => ⟨(Kd.fresh' (Kd.R_lt (vR_ HO1108.out)) k_ hk_), (Kd.fresh' (Kd.R_lt (vR_ HO1116.out)) k_ hk_), (Kd.fresh' (Kd.R_lt (vR_ HO1122.out)) k_ hk_), (Kd.fresh' (Kd.R_lt (vR_ HO1127.out)) k_ hk_), (Kd.fresh' (Kd.R_lt (vR_ HO1134.out)) k_ hk_), (Kd.fresh' (Kd.N_lt (vN_ HO1143.out)) k_ hk_), (Kd.fresh' (Kd.N_lt (vN_ HO1146.out)) k_ hk_), (Kd.fresh' (Kd.N_lt (vN_ HO1150.out)) k_ hk_), (Kd.fresh' (Kd.N_lt (vN_ HO1155.out)) k_ hk_), (Kd.fresh' (Kd.N_lt (vN_ HO1159.out)) k_ hk_), (Kd.fresh' (Kd.R_lt (vR_ HO1161.out)) k_ hk_), (Kd.fresh' (Kd.N_lt (vN_ HO1167.out)) k_ hk_), (Kd.fresh' (Kd.R_lt (vR_ HO1169.out)) k_ hk_), (Kd.fresh' (Kd.R_lt (vR_ HO1171.out)) k_ hk_), (Kd.freshB (g := gb1112) (o := .cells #[.int .i64 t1105, .slice Ao41 t1106.length co41, .bool t1109, .bool t1110, .int .i64 t1111] 28 (0, 0)) (vb_ BK1112.out) k_ hk_), (Kd.freshB (g := gb1123) (o := .cells #[.int .i64 t1113, .slice Ao46 t1114.length co46, .bool t1117, .bool t1118, .int .i64 t1119] 28 (0, 0)) (vb_ BK1123.out) k_ hk_), (Kd.freshB (g := gb1138) (o := .cells #[.int .i64 t1124, .slice Ao54 t1125.length co54, .bool t1128, .bool t1129, .int .i64 t1130] 28 (0, 0)) (vb_ BK1138.out) k_ hk_), (Kd.freshB (g := gb1139) (o := .cells #[.int .i64 t1131, .slice Ao58 t1132.length co58, .bool t1135, .bool t1136, .int .i64 t1137] 28 (0, 0)) (vb_ BK1139.out) k_ hk_)⟩)) (below_size (by repeat (first | (with_reducible first | exact HB.out | apply below_alloc | apply pw_below_drewN | apply below_drew1 | refine below_set ?_ GE1112.out | refine below_set ?_ GE1123.out | refine below_set ?_ GE1138.out | refine below_set ?_ GE1139.out) | exact HB.out))))
         replace HO1108 := A_ (Kd.R_below (vR_ HO1108.out) hb)
         replace HO1116 := A_ (Kd.R_below (vR_ HO1116.out) hb)
         replace HO1122 := A_ (Kd.R_below (vR_ HO1122.out) hb)
         replace HO1127 := A_ (Kd.R_below (vR_ HO1127.out) hb)
         replace HO1134 := A_ (Kd.R_below (vR_ HO1134.out) hb)
         replace HO1143 := A_ (Kd.N_elder' (vN_ HO1143.out) (kb_ ho0) hb)
         replace HO1146 := A_ (Kd.N_elder' (vN_ HO1146.out) (kb_ ho0) hb)
         replace HO1150 := A_ (Kd.N_elder' (vN_ HO1150.out) (kb_ ho0) hb)
         replace HO1155 := A_ (Kd.N_elder' (vN_ HO1155.out) (kb_ ho0) hb)
         replace HO1159 := A_ (Kd.N_elder' (vN_ HO1159.out) (kb_ ho0) hb)
         replace HO1161 := A_ (Kd.R_below (vR_ HO1161.out) hb)
         replace HO1167 := A_ (Kd.N_elder' (vN_ HO1167.out) (kb_ ho0) hb)
         replace HO1169 := A_ (Kd.R_below (vR_ HO1169.out) hb)
         replace HO1171 := A_ (Kd.R_below (vR_ HO1171.out) hb)
         replace BK1112 := A_ (bw_ BK1112.out hb)
         replace BK1123 := A_ (bw_ BK1123.out hb)
         replace BK1138 := A_ (bw_ BK1138.out hb)
         replace BK1139 := A_ (bw_ BK1139.out hb)
         replace HB := A_ (below_step (by repeat (first | (with_reducible first | exact HB.out | apply below_alloc | apply pw_below_drewN | apply below_drew1 | refine below_set ?_ GE1112.out | refine below_set ?_ GE1123.out | refine below_set ?_ GE1138.out | refine below_set ?_ GE1139.out) | exact HB.out)) hb)
         (try clear hb)
         (try clear hb2)
         (try clear hk)
         (try clear hi)
         (try clear ho0)
         refine hK.out _ _ ⟨(blk_cell BK1112.out 0).trans rfl, (blk_cell BK1112.out 1).trans rfl, (blk_cell BK1112.out 2).trans rfl, (blk_cell BK1112.out 3).trans rfl, (blk_cell BK1112.out 4).trans rfl, (blk_cell BK1123.out 0).trans rfl, (blk_cell BK1123.out 1).trans rfl, (blk_cell BK1123.out 2).trans rfl, (blk_cell BK1123.out 3).trans rfl, (blk_cell BK1123.out 4).trans rfl, (blk_cell BK1138.out 0).trans rfl, (blk_cell BK1138.out 1).trans rfl, (blk_cell BK1138.out 2).trans rfl, (blk_cell BK1138.out 3).trans rfl, (blk_cell BK1138.out 4).trans rfl, (blk_cell BK1139.out 0).trans rfl, (blk_cell BK1139.out 1).trans rfl, (blk_cell BK1139.out 2).trans rfl, (blk_cell BK1139.out 3).trans rfl, (blk_cell BK1139.out 4).trans rfl⟩ (fun hHeld => ?_)
         clear hK K
         refine no_ (some 115) ?_
         refine on_ (i := 48) (N := some 118) (fun K hK => ?_)
         refine goes_ Try.func36 (by kernel_rfl) rfl #[.slice Ao79 t1152.length co79, .int .i64 t1153] (by rfl) rfl rfl ml_ ?_
         with_reducible refine (spec_LiveLocks.calls k _ _ t1152 t1153 t1184 _ ?s1 ?s2 A29.out).mono ?_
         (case s1 => exact cC_ (Kd.N_reads' HO1155.out).2.2)
         (case s2 => exact (Kd.N_reads' HO1155.out).2.1)
         rintro e w81 ⟨v1185, rfl, ho0, hb⟩
         refine ⟨_, rfl, ?_⟩
         have HO1186 := A_ (Kd.N_lower (Kd.N_mono (ok' := fun k_ => some k_ ≠ (.slice Ao41 t1106.length co41 : Value).ownBlock ∧ some k_ ≠ (.slice Ao46 t1114.length co46 : Value).ownBlock ∧ some k_ ≠ (.slice Ao69 t1120.length co69 : Value).ownBlock ∧ some k_ ≠ (.slice Ao54 t1125.length co54 : Value).ownBlock ∧ some k_ ≠ (.slice Ao58 t1132.length co58 : Value).ownBlock ∧ some k_ ≠ (.slice Ao60 t1140.length co60 : Value).ownBlock ∧ some k_ ≠ (.slice Ao76 t1144.length co76 : Value).ownBlock ∧ some k_ ≠ (.slice Ao77 t1148.length co77 : Value).ownBlock ∧ some k_ ≠ (.slice Ao79 t1152.length co79 : Value).ownBlock ∧ some k_ ≠ (v1158 : Value).ownBlock ∧ some k_ ≠ (v1160 : Value).ownBlock ∧ some k_ ≠ (v1166 : Value).ownBlock ∧ some k_ ≠ (v1168 : Value).ownBlock ∧ some k_ ≠ (v1170 : Value).ownBlock ∧ some k_ ≠ (v1182 : Value).ownBlock ∧ k_ ≠ gb1112 ∧ k_ ≠ gb1123 ∧ k_ ≠ gb1138 ∧ k_ ≠ gb1139) ho0 (fun k_ hk_ => ⟨(Kd.fresh' (Kd.R_lt (vR_ HO1108.out)) k_ hk_), (Kd.fresh' (Kd.R_lt (vR_ HO1116.out)) k_ hk_), (Kd.fresh' (Kd.R_lt (vR_ HO1122.out)) k_ hk_), (Kd.fresh' (Kd.R_lt (vR_ HO1127.out)) k_ hk_), (Kd.fresh' (Kd.R_lt (vR_ HO1134.out)) k_ hk_), (Kd.fresh' (Kd.N_lt (vN_ HO1143.out)) k_ hk_), (Kd.fresh' (Kd.N_lt (vN_ HO1146.out)) k_ hk_), (Kd.fresh' (Kd.N_lt (vN_ HO1150.out)) k_ hk_), (Kd.fresh' (Kd.N_lt (vN_ HO1155.out)) k_ hk_), (Kd.fresh' (Kd.N_lt (vN_ HO1159.out)) k_ hk_), (Kd.fresh' (Kd.R_lt (vR_ HO1161.out)) k_ hk_), (Kd.fresh' (Kd.N_lt (vN_ HO1167.out)) k_ hk_), (Kd.fresh' (Kd.R_lt (vR_ HO1169.out)) k_ hk_), (Kd.fresh' (Kd.R_lt (vR_ HO1171.out)) k_ hk_), (Kd.fresh' (Kd.N_lt (vN_ HO1183.out)) k_ hk_), (Kd.freshB (g := gb1112) (o := .cells #[.int .i64 t1105, .slice Ao41 t1106.length co41, .bool t1109, .bool t1110, .int .i64 t1111] 28 (0, 0)) (vb_ BK1112.out) k_ hk_), (Kd.freshB (g := gb1123) (o := .cells #[.int .i64 t1113, .slice Ao46 t1114.length co46, .bool t1117, .bool t1118, .int .i64 t1119] 28 (0, 0)) (vb_ BK1123.out) k_ hk_), (Kd.freshB (g := gb1138) (o := .cells #[.int .i64 t1124, .slice Ao54 t1125.length co54, .bool t1128, .bool t1129, .int .i64 t1130] 28 (0, 0)) (vb_ BK1138.out) k_ hk_), (Kd.freshB (g := gb1139) (o := .cells #[.int .i64 t1131, .slice Ao58 t1132.length co58, .bool t1135, .bool t1136, .int .i64 t1137] 28 (0, 0)) (vb_ BK1139.out) k_ hk_)⟩)) (below_size (by repeat (first | (with_reducible first | exact HB.out | apply below_alloc | apply pw_below_drewN | apply below_drew1 | refine below_set ?_ GE1112.out | refine below_set ?_ GE1123.out | refine below_set ?_ GE1138.out | refine below_set ?_ GE1139.out) | exact HB.out))))
         replace HO1108 := A_ (Kd.R_below (vR_ HO1108.out) hb)
         replace HO1116 := A_ (Kd.R_below (vR_ HO1116.out) hb)
         replace HO1122 := A_ (Kd.R_below (vR_ HO1122.out) hb)
         replace HO1127 := A_ (Kd.R_below (vR_ HO1127.out) hb)
         replace HO1134 := A_ (Kd.R_below (vR_ HO1134.out) hb)
         replace HO1143 := A_ (Kd.N_elder' (vN_ HO1143.out) (kb_ ho0) hb)
         replace HO1146 := A_ (Kd.N_elder' (vN_ HO1146.out) (kb_ ho0) hb)
         replace HO1150 := A_ (Kd.N_elder' (vN_ HO1150.out) (kb_ ho0) hb)
         replace HO1155 := A_ (Kd.N_elder' (vN_ HO1155.out) (kb_ ho0) hb)
         replace HO1159 := A_ (Kd.N_elder' (vN_ HO1159.out) (kb_ ho0) hb)
         replace HO1161 := A_ (Kd.R_below (vR_ HO1161.out) hb)
         replace HO1167 := A_ (Kd.N_elder' (vN_ HO1167.out) (kb_ ho0) hb)
         replace HO1169 := A_ (Kd.R_below (vR_ HO1169.out) hb)
         replace HO1171 := A_ (Kd.R_below (vR_ HO1171.out) hb)
         replace HO1183 := A_ (Kd.N_elder' (vN_ HO1183.out) (kb_ ho0) hb)
         replace BK1112 := A_ (bw_ BK1112.out hb)
         replace BK1123 := A_ (bw_ BK1123.out hb)
         replace BK1138 := A_ (bw_ BK1138.out hb)
         replace BK1139 := A_ (bw_ BK1139.out hb)
         replace HB := A_ (below_step (by repeat (first | (with_reducible first | exact HB.out | apply below_alloc | apply pw_below_drewN | apply below_drew1 | refine below_set ?_ GE1112.out | refine below_set ?_ GE1123.out | refine below_set ?_ GE1138.out | refine below_set ?_ GE1139.out) | exact HB.out)) hb)
         (try clear hb)
         (try clear hb2)
         (try clear hk)
         (try clear hi)
         (try clear ho0)
         obtain ⟨Ao82, co82, eo82⟩ := Kd.N_slice HO1183.out
         (first | subst eo82 | (injection eo82 with f1_ f2_ f3_; have f4_ := f1_.symm; have f5_ := f3_.symm; clear f1_ f2_ f3_; subst f4_; subst f5_))
         obtain ⟨Ao83, co83, eo83⟩ := Kd.N_slice HO1186.out
         (first | subst eo83 | (injection eo83 with f1_ f2_ f3_; have f4_ := f1_.symm; have f5_ := f3_.symm; clear f1_ f2_ f3_; subst f4_; subst f5_))
         refine hK.out _ _ ⟨(blk_cell BK1112.out 0).trans rfl, (blk_cell BK1112.out 1).trans rfl, (blk_cell BK1112.out 2).trans rfl, (blk_cell BK1112.out 3).trans rfl, (blk_cell BK1112.out 4).trans rfl, (blk_cell BK1123.out 0).trans rfl, (blk_cell BK1123.out 1).trans rfl, (blk_cell BK1123.out 2).trans rfl, (blk_cell BK1123.out 3).trans rfl, (blk_cell BK1123.out 4).trans rfl, (blk_cell BK1138.out 0).trans rfl, (blk_cell BK1138.out 1).trans rfl, (blk_cell BK1138.out 2).trans rfl, (blk_cell BK1138.out 3).trans rfl, (blk_cell BK1138.out 4).trans rfl, (blk_cell BK1139.out 0).trans rfl, (blk_cell BK1139.out 1).trans rfl, (blk_cell BK1139.out 2).trans rfl, (blk_cell BK1139.out 3).trans rfl, (blk_cell BK1139.out 4).trans rfl⟩ (fun hHeld => ?_)
         clear hK K
         refine no_ (some 118) ?_
         refine on_ (i := 49) (N := some 119) (fun K hK => ?_)
         refine goes_ Try.func54 (by kernel_rfl) rfl #[.slice Ao82 t1181.length co82, .slice Ao83 t1184.length co83] (by rfl) rfl rfl ml_ ?_
         with_reducible refine (laws_sameLocks.calls k _ _ t1181 _ _ t1184 true _ ?s1 ?s2 ?s3 ?s4 A30.out).mono ?_
         (case s1 => exact cC_ (Kd.N_reads' HO1183.out).2.2)
         (case s2 => exact (Kd.N_reads' HO1183.out).2.1)
         (case s3 => exact cC_ (Kd.N_reads' HO1186.out).2.2)
         (case s4 => exact (Kd.N_reads' HO1186.out).2.1)
         rintro e w84 ⟨rfl, hb⟩
         refine ⟨_, rfl, ?_⟩
         replace HO1108 := A_ (Kd.R_below (vR_ HO1108.out) hb)
         replace HO1116 := A_ (Kd.R_below (vR_ HO1116.out) hb)
         replace HO1122 := A_ (Kd.R_below (vR_ HO1122.out) hb)
         replace HO1127 := A_ (Kd.R_below (vR_ HO1127.out) hb)
         replace HO1134 := A_ (Kd.R_below (vR_ HO1134.out) hb)
         replace HO1143 := A_ (Kd.N_below (vN_ HO1143.out) hb)
         replace HO1146 := A_ (Kd.N_below (vN_ HO1146.out) hb)
         replace HO1150 := A_ (Kd.N_below (vN_ HO1150.out) hb)
         replace HO1155 := A_ (Kd.N_below (vN_ HO1155.out) hb)
         replace HO1159 := A_ (Kd.N_below (vN_ HO1159.out) hb)
         replace HO1161 := A_ (Kd.R_below (vR_ HO1161.out) hb)
         replace HO1167 := A_ (Kd.N_below (vN_ HO1167.out) hb)
         replace HO1169 := A_ (Kd.R_below (vR_ HO1169.out) hb)
         replace HO1171 := A_ (Kd.R_below (vR_ HO1171.out) hb)
         replace HO1183 := A_ (Kd.N_below (vN_ HO1183.out) hb)
         replace HO1186 := A_ (Kd.N_below (vN_ HO1186.out) hb)
         replace BK1112 := A_ (bw_ BK1112.out hb)
         replace BK1123 := A_ (bw_ BK1123.out hb)
         replace BK1138 := A_ (bw_ BK1138.out hb)
         replace BK1139 := A_ (bw_ BK1139.out hb)
         replace HB := A_ (below_step (by repeat (first | (with_reducible first | exact HB.out | apply below_alloc | apply pw_below_drewN | apply below_drew1 | refine below_set ?_ GE1112.out | refine below_set ?_ GE1123.out | refine below_set ?_ GE1138.out | refine below_set ?_ GE1139.out) | exact HB.out)) hb)
         (try clear hb)
         (try clear hb2)
         (try clear hk)
         (try clear hi)
         obtain ⟨Ao85, co85, eo85⟩ := Kd.N_slice HO1159.out
         (first | subst eo85 | (injection eo85 with f1_ f2_ f3_; have f4_ := f1_.symm; have f5_ := f3_.symm; clear f1_ f2_ f3_; subst f4_; subst f5_))
         obtain ⟨Ao86, co86, eo86⟩ := Kd.R_slice HO1161.out
         (first | subst eo86 | (injection eo86 with f1_ f2_ f3_; have f4_ := f1_.symm; have f5_ := f3_.symm; clear f1_ f2_ f3_; subst f4_; subst f5_))
         refine hK.out _ _ ⟨(blk_cell BK1112.out 0).trans rfl, (blk_cell BK1112.out 1).trans rfl, (blk_cell BK1112.out 2).trans rfl, (blk_cell BK1112.out 3).trans rfl, (blk_cell BK1112.out 4).trans rfl, (blk_cell BK1123.out 0).trans rfl, (blk_cell BK1123.out 1).trans rfl, (blk_cell BK1123.out 2).trans rfl, (blk_cell BK1123.out 3).trans rfl, (blk_cell BK1123.out 4).trans rfl, (blk_cell BK1138.out 0).trans rfl, (blk_cell BK1138.out 1).trans rfl, (blk_cell BK1138.out 2).trans rfl, (blk_cell BK1138.out 3).trans rfl, (blk_cell BK1138.out 4).trans rfl, (blk_cell BK1139.out 0).trans rfl, (blk_cell BK1139.out 1).trans rfl, (blk_cell BK1139.out 2).trans rfl, (blk_cell BK1139.out 3).trans rfl, (blk_cell BK1139.out 4).trans rfl⟩ (fun hHeld => ?_)
         clear hK K
         refine no_ (some 119) ?_
         refine pu_ (i := 50) (N := some 120) ?_
         refine pu_ (i := 51) (N := some 121) ?_
         refine pu_ (i := 52) (N := some 122) ?_
         refine pu_ (i := 53) (N := some 123) ?_
         refine pu_ (i := 55) (N := some 125) ?_
         refine pu_ (i := 56) (N := some 126) ?_
         refine on_ (i := 54) (N := some 124) (fun K hK => ?_)
         refine goes_ Try.func39 (by kernel_rfl) rfl #[.slice Ao85 t1156.length co85, .slice Ao86 t1157.length co86] (by rfl) rfl rfl ml_ ?_
         with_reducible refine (impl_TokensAt.calls k _ _ t1156 _ _ t1157 t1188 _ ?s1 ?s2 ?s3 ?s4 A32.out).mono ?_
         (case s1 => exact cC_ (Kd.N_reads' HO1159.out).2.2)
         (case s2 => exact (Kd.N_reads' HO1159.out).2.1)
         (case s3 => exact cC_ (Kd.R_reads' HO1161.out).2.2)
         (case s4 => exact (Kd.R_reads' HO1161.out).2.1)
         rintro e w87 ⟨v1189, rfl, ho0, hb⟩
         refine ⟨_, rfl, ?_⟩
         replace HO1108 := A_ (Kd.R_below (vR_ HO1108.out) hb)
         replace HO1116 := A_ (Kd.R_below (vR_ HO1116.out) hb)
         replace HO1122 := A_ (Kd.R_below (vR_ HO1122.out) hb)
         replace HO1127 := A_ (Kd.R_below (vR_ HO1127.out) hb)
         replace HO1134 := A_ (Kd.R_below (vR_ HO1134.out) hb)
         replace HO1143 := A_ (Kd.N_elder' (vN_ HO1143.out) (kb_ ho0) hb)
         replace HO1146 := A_ (Kd.N_elder' (vN_ HO1146.out) (kb_ ho0) hb)
         replace HO1150 := A_ (Kd.N_elder' (vN_ HO1150.out) (kb_ ho0) hb)
         replace HO1155 := A_ (Kd.N_elder' (vN_ HO1155.out) (kb_ ho0) hb)
         replace HO1159 := A_ (Kd.N_elder' (vN_ HO1159.out) (kb_ ho0) hb)
         replace HO1161 := A_ (Kd.R_below (vR_ HO1161.out) hb)
         replace HO1167 := A_ (Kd.N_elder' (vN_ HO1167.out) (kb_ ho0) hb)
         replace HO1169 := A_ (Kd.R_below (vR_ HO1169.out) hb)
         replace HO1183 := A_ (Kd.N_elder' (vN_ HO1183.out) (kb_ ho0) hb)
         replace HO1186 := A_ (Kd.N_elder' (vN_ HO1186.out) (kb_ ho0) hb)
         have HO1190 := A_ (Kd.R_lower (Kd.R_new' ho0 (Kd.R_lt (vR_ HO1171.out))) (below_size (by repeat (first | (with_reducible first | exact HB.out | apply below_alloc | apply pw_below_drewN | apply below_drew1 | refine below_set ?_ GE1112.out | refine below_set ?_ GE1123.out | refine below_set ?_ GE1138.out | refine below_set ?_ GE1139.out) | exact HB.out))))
         replace HO1171 := A_ (Kd.R_elder' (vR_ HO1171.out) (kb_ ho0) hb)
         replace BK1112 := A_ (bw_ BK1112.out hb)
         replace BK1123 := A_ (bw_ BK1123.out hb)
         replace BK1138 := A_ (bw_ BK1138.out hb)
         replace BK1139 := A_ (bw_ BK1139.out hb)
         replace HB := A_ (below_step (by repeat (first | (with_reducible first | exact HB.out | apply below_alloc | apply pw_below_drewN | apply below_drew1 | refine below_set ?_ GE1112.out | refine below_set ?_ GE1123.out | refine below_set ?_ GE1138.out | refine below_set ?_ GE1139.out) | exact HB.out)) hb)
         (try clear hb)
         (try clear hb2)
         (try clear hk)
         (try clear hi)
         (try clear ho0)
         refine hK.out _ _ ⟨(blk_cell BK1112.out 0).trans rfl, (blk_cell BK1112.out 1).trans rfl, (blk_cell BK1112.out 2).trans rfl, (blk_cell BK1112.out 3).trans rfl, (blk_cell BK1112.out 4).trans rfl, (blk_cell BK1123.out 0).trans rfl, (blk_cell BK1123.out 1).trans rfl, (blk_cell BK1123.out 2).trans rfl, (blk_cell BK1123.out 3).trans rfl, (blk_cell BK1123.out 4).trans rfl, (blk_cell BK1138.out 0).trans rfl, (blk_cell BK1138.out 1).trans rfl, (blk_cell BK1138.out 2).trans rfl, (blk_cell BK1138.out 3).trans rfl, (blk_cell BK1138.out 4).trans rfl, (blk_cell BK1139.out 0).trans rfl, (blk_cell BK1139.out 1).trans rfl, (blk_cell BK1139.out 2).trans rfl, (blk_cell BK1139.out 3).trans rfl, (blk_cell BK1139.out 4).trans rfl⟩ (fun hHeld => ?_)
         clear hK K
         refine no_ (some 124) ?_
         refine on_ (i := 57) (N := some 127) (fun K hK => ?_)
         refine goes_ Try.func38 (by kernel_rfl) rfl #[.slice Ao85 t1156.length co85, .slice Ao86 t1157.length co86] (by rfl) rfl rfl ml_ ?_
         with_reducible refine (spec_TokensAt.calls k _ _ t1156 _ _ t1157 t1191 _ ?s1 ?s2 ?s3 ?s4 A33.out).mono ?_
         (case s1 => exact cC_ (Kd.N_reads' HO1159.out).2.2)
         (case s2 => exact (Kd.N_reads' HO1159.out).2.1)
         (case s3 => exact cC_ (Kd.R_reads' HO1161.out).2.2)
         (case s4 => exact (Kd.R_reads' HO1161.out).2.1)
         rintro e w88 ⟨v1192, rfl, ho0, hb⟩
         refine ⟨_, rfl, ?_⟩
         replace HO1108 := A_ (Kd.R_below (vR_ HO1108.out) hb)
         replace HO1116 := A_ (Kd.R_below (vR_ HO1116.out) hb)
         replace HO1122 := A_ (Kd.R_below (vR_ HO1122.out) hb)
         replace HO1127 := A_ (Kd.R_below (vR_ HO1127.out) hb)
         replace HO1134 := A_ (Kd.R_below (vR_ HO1134.out) hb)
         replace HO1143 := A_ (Kd.N_elder' (vN_ HO1143.out) (kb_ ho0) hb)
         replace HO1146 := A_ (Kd.N_elder' (vN_ HO1146.out) (kb_ ho0) hb)
         replace HO1150 := A_ (Kd.N_elder' (vN_ HO1150.out) (kb_ ho0) hb)
         replace HO1155 := A_ (Kd.N_elder' (vN_ HO1155.out) (kb_ ho0) hb)
         replace HO1159 := A_ (Kd.N_elder' (vN_ HO1159.out) (kb_ ho0) hb)
         replace HO1161 := A_ (Kd.R_below (vR_ HO1161.out) hb)
         replace HO1167 := A_ (Kd.N_elder' (vN_ HO1167.out) (kb_ ho0) hb)
         replace HO1169 := A_ (Kd.R_below (vR_ HO1169.out) hb)
         replace HO1183 := A_ (Kd.N_elder' (vN_ HO1183.out) (kb_ ho0) hb)
         replace HO1186 := A_ (Kd.N_elder' (vN_ HO1186.out) (kb_ ho0) hb)
         have HO1193 := A_ (Kd.R_lower (Kd.R_new' (Kd.R_new' ho0 (Kd.R_lt (vR_ HO1171.out))) (Kd.R_lt (vR_ HO1190.out))) (below_size (by repeat (first | (with_reducible first | exact HB.out | apply below_alloc | apply pw_below_drewN | apply below_drew1 | refine below_set ?_ GE1112.out | refine below_set ?_ GE1123.out | refine below_set ?_ GE1138.out | refine below_set ?_ GE1139.out) | exact HB.out))))
         replace HO1171 := A_ (Kd.R_elder' (vR_ HO1171.out) (kb_ ho0) hb)
         replace HO1190 := A_ (Kd.R_elder' (vR_ HO1190.out) (kb_ ho0) hb)
         replace BK1112 := A_ (bw_ BK1112.out hb)
         replace BK1123 := A_ (bw_ BK1123.out hb)
         replace BK1138 := A_ (bw_ BK1138.out hb)
         replace BK1139 := A_ (bw_ BK1139.out hb)
         replace HB := A_ (below_step (by repeat (first | (with_reducible first | exact HB.out | apply below_alloc | apply pw_below_drewN | apply below_drew1 | refine below_set ?_ GE1112.out | refine below_set ?_ GE1123.out | refine below_set ?_ GE1138.out | refine below_set ?_ GE1139.out) | exact HB.out)) hb)
         (try clear hb)
         (try clear hb2)
         (try clear hk)
         (try clear hi)
         (try clear ho0)
         obtain ⟨Ao89, co89, eo89⟩ := Kd.R_slice HO1190.out
         (first | subst eo89 | (injection eo89 with f1_ f2_ f3_; have f4_ := f1_.symm; have f5_ := f3_.symm; clear f1_ f2_ f3_; subst f4_; subst f5_))
         obtain ⟨Ao90, co90, eo90⟩ := Kd.R_slice HO1193.out
         (first | subst eo90 | (injection eo90 with f1_ f2_ f3_; have f4_ := f1_.symm; have f5_ := f3_.symm; clear f1_ f2_ f3_; subst f4_; subst f5_))
         refine hK.out _ _ ⟨(blk_cell BK1112.out 0).trans rfl, (blk_cell BK1112.out 1).trans rfl, (blk_cell BK1112.out 2).trans rfl, (blk_cell BK1112.out 3).trans rfl, (blk_cell BK1112.out 4).trans rfl, (blk_cell BK1123.out 0).trans rfl, (blk_cell BK1123.out 1).trans rfl, (blk_cell BK1123.out 2).trans rfl, (blk_cell BK1123.out 3).trans rfl, (blk_cell BK1123.out 4).trans rfl, (blk_cell BK1138.out 0).trans rfl, (blk_cell BK1138.out 1).trans rfl, (blk_cell BK1138.out 2).trans rfl, (blk_cell BK1138.out 3).trans rfl, (blk_cell BK1138.out 4).trans rfl, (blk_cell BK1139.out 0).trans rfl, (blk_cell BK1139.out 1).trans rfl, (blk_cell BK1139.out 2).trans rfl, (blk_cell BK1139.out 3).trans rfl, (blk_cell BK1139.out 4).trans rfl⟩ (fun hHeld => ?_)
         clear hK K
         refine no_ (some 127) ?_
         refine on_ (i := 58) (N := some 128) (fun K hK => ?_)
         refine goes_ Try.func61 (by kernel_rfl) rfl #[.slice Ao89 t1188.length co89, .slice Ao90 t1191.length co90] (by rfl) rfl rfl ml_ ?_
         with_reducible refine (laws_sameInts.calls k _ _ t1188 _ _ t1191 true _ ?s1 ?s2 ?s3 ?s4 A34.out).mono ?_
         (case s1 => exact cC_ (Kd.R_reads' HO1190.out).2.2)
         (case s2 => exact (Kd.R_reads' HO1190.out).2.1)
         (case s3 => exact cC_ (Kd.R_reads' HO1193.out).2.2)
         (case s4 => exact (Kd.R_reads' HO1193.out).2.1)
         rintro e w' ⟨rfl, ⟨nd, rfl⟩⟩
         refine ⟨_, rfl, ?_⟩
         obtain ⟨Ao91, co91, eo91⟩ := Kd.N_slice HO1167.out
         (first | subst eo91 | (injection eo91 with f1_ f2_ f3_; have f4_ := f1_.symm; have f5_ := f3_.symm; clear f1_ f2_ f3_; subst f4_; subst f5_))
         obtain ⟨Ao92, co92, eo92⟩ := Kd.R_slice HO1169.out
         (first | subst eo92 | (injection eo92 with f1_ f2_ f3_; have f4_ := f1_.symm; have f5_ := f3_.symm; clear f1_ f2_ f3_; subst f4_; subst f5_))
         obtain ⟨Ao93, co93, eo93⟩ := Kd.R_slice HO1171.out
         (first | subst eo93 | (injection eo93 with f1_ f2_ f3_; have f4_ := f1_.symm; have f5_ := f3_.symm; clear f1_ f2_ f3_; subst f4_; subst f5_))
         refine hK.out _ _ ⟨(blk_cell BK1112.out 0).trans rfl, (blk_cell BK1112.out 1).trans rfl, (blk_cell BK1112.out 2).trans rfl, (blk_cell BK1112.out 3).trans rfl, (blk_cell BK1112.out 4).trans rfl, (blk_cell BK1123.out 0).trans rfl, (blk_cell BK1123.out 1).trans rfl, (blk_cell BK1123.out 2).trans rfl, (blk_cell BK1123.out 3).trans rfl, (blk_cell BK1123.out 4).trans rfl, (blk_cell BK1138.out 0).trans rfl, (blk_cell BK1138.out 1).trans rfl, (blk_cell BK1138.out 2).trans rfl, (blk_cell BK1138.out 3).trans rfl, (blk_cell BK1138.out 4).trans rfl, (blk_cell BK1139.out 0).trans rfl, (blk_cell BK1139.out 1).trans rfl, (blk_cell BK1139.out 2).trans rfl, (blk_cell BK1139.out 3).trans rfl, (blk_cell BK1139.out 4).trans rfl⟩ (fun hHeld => ?_)
         clear hK K
         refine no_ (some 128) ?_
         refine pu_ (i := 59) (N := some 129) ?_
         refine pu_ (i := 60) (N := some 130) ?_
         refine pu_ (i := 61) (N := some 131) ?_
         refine pu_ (i := 62) (N := some 132) ?_
         refine pu_ (i := 63) (N := some 133) ?_
         refine pu_ (i := 64) (N := some 134) ?_
         refine pu_ (i := 66) (N := some 136) ?_
         refine pu_ (i := 67) (N := some 137) ?_
         refine pu_ (i := 68) (N := some 138) ?_
         refine pu_ (i := 69) (N := some 139) ?_
         refine on_ (i := 65) (N := some 135) (fun K hK => ?_)
         refine goes_ Try.func29 (by kernel_rfl) rfl #[.slice Ao91 t1162.length co91, .slice Ao92 t1163.length co92, .bool t1164, .slice Ao93 t1165.length co93] (by rfl) rfl rfl ml_ ?_
         with_reducible refine (impl_MayTurn.calls k _ _ t1162 _ _ t1163 t1164 _ _ t1165 t1195 _ ?s1 ?s2 ?s3 ?s4 ?s5 ?s6 A36.out).mono ?_
         (case s1 => exact cC_ (Kd.N_reads' HO1167.out).2.2)
         (case s2 => exact (Kd.N_reads' HO1167.out).2.1)
         (case s3 => exact cC_ (Kd.R_reads' HO1169.out).2.2)
         (case s4 => exact (Kd.R_reads' HO1169.out).2.1)
         (case s5 => exact cC_ (Kd.R_reads' HO1171.out).2.2)
         (case s6 => exact (Kd.R_reads' HO1171.out).2.1)
         rintro e w94 ⟨rfl, hb⟩
         refine ⟨_, rfl, ?_⟩
         replace HO1108 := A_ (Kd.R_below (vR_ HO1108.out) hb)
         replace HO1116 := A_ (Kd.R_below (vR_ HO1116.out) hb)
         replace HO1122 := A_ (Kd.R_below (vR_ HO1122.out) hb)
         replace HO1127 := A_ (Kd.R_below (vR_ HO1127.out) hb)
         replace HO1134 := A_ (Kd.R_below (vR_ HO1134.out) hb)
         replace HO1143 := A_ (Kd.N_below (vN_ HO1143.out) hb)
         replace HO1146 := A_ (Kd.N_below (vN_ HO1146.out) hb)
         replace HO1150 := A_ (Kd.N_below (vN_ HO1150.out) hb)
         replace HO1155 := A_ (Kd.N_below (vN_ HO1155.out) hb)
         replace HO1159 := A_ (Kd.N_below (vN_ HO1159.out) hb)
         replace HO1161 := A_ (Kd.R_below (vR_ HO1161.out) hb)
         replace HO1167 := A_ (Kd.N_below (vN_ HO1167.out) hb)
         replace HO1169 := A_ (Kd.R_below (vR_ HO1169.out) hb)
         replace HO1171 := A_ (Kd.R_below (vR_ HO1171.out) hb)
         replace HO1183 := A_ (Kd.N_below (vN_ HO1183.out) hb)
         replace HO1186 := A_ (Kd.N_below (vN_ HO1186.out) hb)
         replace HO1190 := A_ (Kd.R_below (vR_ HO1190.out) hb)
         replace HO1193 := A_ (Kd.R_below (vR_ HO1193.out) hb)
         replace BK1112 := A_ (bw_ BK1112.out hb)
         replace BK1123 := A_ (bw_ BK1123.out hb)
         replace BK1138 := A_ (bw_ BK1138.out hb)
         replace BK1139 := A_ (bw_ BK1139.out hb)
         replace HB := A_ (below_step (by repeat (first | (with_reducible first | exact HB.out | apply below_alloc | apply pw_below_drewN | apply below_drew1 | refine below_set ?_ GE1112.out | refine below_set ?_ GE1123.out | refine below_set ?_ GE1138.out | refine below_set ?_ GE1139.out) | exact HB.out)) hb)
         (try clear hb)
         (try clear hb2)
         (try clear hk)
         (try clear hi)
         refine hK.out _ _ ⟨(blk_cell BK1112.out 0).trans rfl, (blk_cell BK1112.out 1).trans rfl, (blk_cell BK1112.out 2).trans rfl, (blk_cell BK1112.out 3).trans rfl, (blk_cell BK1112.out 4).trans rfl, (blk_cell BK1123.out 0).trans rfl, (blk_cell BK1123.out 1).trans rfl, (blk_cell BK1123.out 2).trans rfl, (blk_cell BK1123.out 3).trans rfl, (blk_cell BK1123.out 4).trans rfl, (blk_cell BK1138.out 0).trans rfl, (blk_cell BK1138.out 1).trans rfl, (blk_cell BK1138.out 2).trans rfl, (blk_cell BK1138.out 3).trans rfl, (blk_cell BK1138.out 4).trans rfl, (blk_cell BK1139.out 0).trans rfl, (blk_cell BK1139.out 1).trans rfl, (blk_cell BK1139.out 2).trans rfl, (blk_cell BK1139.out 3).trans rfl, (blk_cell BK1139.out 4).trans rfl⟩ (fun hHeld => ?_)
         clear hK K
         refine no_ (some 135) ?_
         refine on_ (i := 70) (N := some 140) (fun K hK => ?_)
         refine goes_ Try.func26 (by kernel_rfl) rfl #[.slice Ao91 t1162.length co91, .slice Ao92 t1163.length co92, .bool t1164, .slice Ao93 t1165.length co93] (by rfl) rfl rfl ml_ ?_
         with_reducible refine (spec_MayTurn.calls k _ _ t1162 _ _ t1163 t1164 _ _ t1165 t1196 _ ?s1 ?s2 ?s3 ?s4 ?s5 ?s6 A37.out).mono ?_
         (case s1 => exact cC_ (Kd.N_reads' HO1167.out).2.2)
         (case s2 => exact (Kd.N_reads' HO1167.out).2.1)
         (case s3 => exact cC_ (Kd.R_reads' HO1169.out).2.2)
         (case s4 => exact (Kd.R_reads' HO1169.out).2.1)
         (case s5 => exact cC_ (Kd.R_reads' HO1171.out).2.2)
         (case s6 => exact (Kd.R_reads' HO1171.out).2.1)
         rintro e w95 ⟨rfl, hb⟩
         refine ⟨_, rfl, ?_⟩
         replace HO1108 := A_ (Kd.R_below (vR_ HO1108.out) hb)
         replace HO1116 := A_ (Kd.R_below (vR_ HO1116.out) hb)
         replace HO1122 := A_ (Kd.R_below (vR_ HO1122.out) hb)
         replace HO1127 := A_ (Kd.R_below (vR_ HO1127.out) hb)
         replace HO1134 := A_ (Kd.R_below (vR_ HO1134.out) hb)
         replace HO1143 := A_ (Kd.N_below (vN_ HO1143.out) hb)
         replace HO1146 := A_ (Kd.N_below (vN_ HO1146.out) hb)
         replace HO1150 := A_ (Kd.N_below (vN_ HO1150.out) hb)
         replace HO1155 := A_ (Kd.N_below (vN_ HO1155.out) hb)
         replace HO1159 := A_ (Kd.N_below (vN_ HO1159.out) hb)
         replace HO1161 := A_ (Kd.R_below (vR_ HO1161.out) hb)
         replace HO1167 := A_ (Kd.N_below (vN_ HO1167.out) hb)
         replace HO1169 := A_ (Kd.R_below (vR_ HO1169.out) hb)
         replace HO1171 := A_ (Kd.R_below (vR_ HO1171.out) hb)
         replace HO1183 := A_ (Kd.N_below (vN_ HO1183.out) hb)
         replace HO1186 := A_ (Kd.N_below (vN_ HO1186.out) hb)
         replace HO1190 := A_ (Kd.R_below (vR_ HO1190.out) hb)
         replace HO1193 := A_ (Kd.R_below (vR_ HO1193.out) hb)
         replace BK1112 := A_ (bw_ BK1112.out hb)
         replace BK1123 := A_ (bw_ BK1123.out hb)
         replace BK1138 := A_ (bw_ BK1138.out hb)
         replace BK1139 := A_ (bw_ BK1139.out hb)
         replace HB := A_ (below_step (by repeat (first | (with_reducible first | exact HB.out | apply below_alloc | apply pw_below_drewN | apply below_drew1 | refine below_set ?_ GE1112.out | refine below_set ?_ GE1123.out | refine below_set ?_ GE1138.out | refine below_set ?_ GE1139.out) | exact HB.out)) hb)
         (try clear hb)
         (try clear hb2)
         (try clear hk)
         (try clear hi)
         refine hK.out _ _ ⟨(blk_cell BK1112.out 0).trans rfl, (blk_cell BK1112.out 1).trans rfl, (blk_cell BK1112.out 2).trans rfl, (blk_cell BK1112.out 3).trans rfl, (blk_cell BK1112.out 4).trans rfl, (blk_cell BK1123.out 0).trans rfl, (blk_cell BK1123.out 1).trans rfl, (blk_cell BK1123.out 2).trans rfl, (blk_cell BK1123.out 3).trans rfl, (blk_cell BK1123.out 4).trans rfl, (blk_cell BK1138.out 0).trans rfl, (blk_cell BK1138.out 1).trans rfl, (blk_cell BK1138.out 2).trans rfl, (blk_cell BK1138.out 3).trans rfl, (blk_cell BK1138.out 4).trans rfl, (blk_cell BK1139.out 0).trans rfl, (blk_cell BK1139.out 1).trans rfl, (blk_cell BK1139.out 2).trans rfl, (blk_cell BK1139.out 3).trans rfl, (blk_cell BK1139.out 4).trans rfl⟩ (fun hHeld => ?_)
         clear hK K
         refine no_ (some 140) ?_
         refine pu_ (i := 71) (N := some 141) ?_
         refine pu_ (i := 72) (N := some 142) ?_
         refine pu_ (i := 73) (N := some 2) ?_
         refine done_ (done_of HT_.out (by kernel_rfl)) ?_
         (try clear hHeld)
         try go_wp2
         go_ret
         exact ⟨rr_, by repeat (first | (with_reducible first | exact HB.out | apply below_alloc | apply pw_below_drewN | apply below_drew1 | refine below_set ?_ GE1112.out | refine below_set ?_ GE1123.out | refine below_set ?_ GE1138.out | refine below_set ?_ GE1139.out) | exact HB.out)⟩
       · replace c35 := Bool.eq_false_iff.mpr c35
         subst c35
         rw [if_neg nf_] at H
         exact absurd H (by simp)
     · replace c31 := Bool.eq_false_iff.mpr c31
       subst c31
       rw [if_neg nf_] at H
       exact absurd H (by simp)
   · replace c27 := Bool.eq_false_iff.mpr c27
     subst c27
     rw [if_neg nf_] at H
     exact absurd H (by simp)
def laws_FnLocksBent.Pure : Prop := ∀ (l0 : List Int), l0.length ≤ maxLen → l0.length * 1 ≤ 140737488351232 → (∀ x ∈ l0, (Lit.int .u8 x).wf = true) → ∃ k, laws_FnLocksBent.f k l0 = some true
end Go.Proofs.Ytiddgglidkbipaa.Q
