/- For the law FnOnce: what it needs of the words, of the printed functions and of the plain laws, in few texts (laid by merge.py of this workplace). -/
import Derived.Test.YtfajabboibcgpaaMFnOncec
import Derived.Laws.BitsLemmas
section
namespace Go.Proofs.Ytfajabboibcgpaa.PA
open Go.RowKit Go.Proofs.YtfajabboibcgpaaW.PrintWords Go.Proofs.YtfajabboibcgpaaW.PrintLast Go.Proofs.YtfajabboibcgpaaW.PrintMore
attribute [local go_sem] max2_int min2_int max_two min_two max_three min_three max_four min_four   -- for this text's walks alone
set_option linter.unusedVariables false
set_option linter.unusedSimpArgs false
mutual
def laws_FnOnce.j0 : Nat → List Int → ByteArray → List ByteArray → Bool → ByteArray → Bool → List ByteArray → Bool → Bool → Option (Bool)
 | 0, _, _, _, _, _, _, _, _, _ => none
 | k + 1, x1, x6, x7, x8, x11, x12, x15, x16, x113 => if x113 = true then (some false) else (if x8 = true then ((impl_CheckOnce.f k x11 x6 x7).bind fun bt924 => ((impl_PublicFrom.f k x6 x7).bind fun bt926 => ((impl_DigitsOf.f k x6).bind fun bt928 => (if x12 = true then (if bt924.2 = true then (if bt924.1 = true then (if bt926.2 = true then (if bt926.1.toList = x11.toList then (if bt928.2 = true then (if x16 = true then (laws_FnOnce.j1 k x1 x7 x15 bt928.1 ((x15.length : Int) != (x7.length : Int))) else (laws_FnOnce.j1 k x1 x7 x15 bt928.1 true)) else (laws_FnOnce.j1 k x1 x7 x15 bt928.1 true)) else (laws_FnOnce.j1 k x1 x7 x15 bt928.1 true)) else (laws_FnOnce.j1 k x1 x7 x15 bt928.1 true)) else (laws_FnOnce.j1 k x1 x7 x15 bt928.1 true)) else (laws_FnOnce.j1 k x1 x7 x15 bt928.1 true)) else (laws_FnOnce.j1 k x1 x7 x15 bt928.1 true))))) else (laws_FnOnce.j3 k x1))
def laws_FnOnce.j3 : Nat → List Int → Option (Bool)
 | 0, _ => none
 | k + 1, x1 => (spec_DrawCheckOnce.f k x1).bind fun bt937 => ((impl_CheckOnce.f k bt937.1 bt937.2.1 bt937.2.2).bind fun bt942 => ((spec_CheckOnce.f k bt937.1 bt937.2.1 bt937.2.2).bind fun bt944 => ((spec_DrawPublicFrom.f k x1).bind fun bt946 => ((impl_PublicFrom.f k bt946.1 bt946.2).bind fun bt950 => ((spec_PublicFrom.f k bt946.1 bt946.2).bind fun bt952 => (if (bt942.2 == bt944.2) = true then (if (bt942.1 == bt944.1) = true then (if (bt950.2 == bt952.2) = true then (some (bt950.1.toList == bt952.1.toList)) else (some false)) else (some false)) else (some false)))))))
def laws_FnOnce.j1 : Nat → List Int → List ByteArray → List ByteArray → List Int → Bool → Option (Bool)
 | 0, _, _, _, _, _ => none
 | k + 1, x1, x7, x15, x23, x166 => if x166 = true then (some false) else (laws_FnOnce.l0 k x1 x7 x15 x23 (x7.length : Int) 0)
def laws_FnOnce.l0 : Nat → List Int → List ByteArray → List ByteArray → List Int → Int → Int → Option (Bool)
 | 0, _, _, _, _, _, _ => none
 | k + 1, x1, x7, x15, x23, x168, x169 => if x169 < x168 then (if 0 ≤ x169 then (if x169 < (x15.length : Int) then (if x169 < (x23.length : Int) then ((impl_ChainOf.f k (rdOf ByteArray.empty x15 x169) 0 (rd x23 x169)).bind fun bt934 => (if bt934.2 = true then (if x169 < (x7.length : Int) then (if bt934.1.toList = (rdOf ByteArray.empty x7 x169).toList then (laws_FnOnce.l0 k x1 x7 x15 x23 x168 (wrap64 (x169 + 1))) else (some false)) else (none)) else (some false))) else (none)) else (none)) else (none)) else (laws_FnOnce.j3 k x1)
end
def laws_FnOnce.f (k : Nat) (l0 : List Int) (l1 : List Int) : Option (Bool) := if (wrap64 ((l0.length : Int) + (l1.length : Int))) > 1048576 then (some true) else ((spec_DrawSignOnce.f l0).bind fun bt900 => ((impl_SignOnce.f k bt900.1 bt900.2).bind fun bt902 => ((spec_SignOnce.f k bt900.1 bt900.2).bind fun bt906 => ((impl_PublicOf.f k bt900.1).bind fun bt910 => ((spec_PublicOf.f k bt900.1).bind fun bt912 => ((impl_KeyParts.f k bt900.1).bind fun bt914 => ((spec_KeyParts.f k bt900.1).bind fun bt918 => (if (bt902.2 != bt906.2) = true then (laws_FnOnce.j0 k l1 bt900.2 bt902.1 bt902.2 bt910.1 bt910.2 bt914.1 bt914.2 true) else ((laws_sameTexts.f k bt902.1 bt906.1).bind fun t922 => (if t922 = true then (if (bt910.2 != bt912.2) = true then (laws_FnOnce.j0 k l1 bt900.2 bt902.1 bt902.2 bt910.1 bt910.2 bt914.1 bt914.2 true) else (if bt910.1.toList = bt912.1.toList then (if (bt914.2 != bt918.2) = true then (laws_FnOnce.j0 k l1 bt900.2 bt902.1 bt902.2 bt910.1 bt910.2 bt914.1 bt914.2 true) else ((laws_sameTexts.f k bt914.1 bt918.1).bind fun t923 => (laws_FnOnce.j0 k l1 bt900.2 bt902.1 bt902.2 bt910.1 bt910.2 bt914.1 bt914.2 (!t923)))) else (laws_FnOnce.j0 k l1 bt900.2 bt902.1 bt902.2 bt910.1 bt910.2 bt914.1 bt914.2 true))) else (laws_FnOnce.j0 k l1 bt900.2 bt902.1 bt902.2 bt910.1 bt910.2 bt914.1 bt914.2 true)))))))))))
def laws_FnOnce.T21 : Bool × List (List Nat × List Nat) := (true, [([], []), ([], []), ([0, 1], [0, 1]), ([2], [2]), ([], []), ([], []), ([4, 5], [4, 5]), ([6], [6]), ([3, 7], [3, 7]), ([8], [8]), ([9], [9]), ([9], [9]), ([10, 8, 0, 1, 2, 3, 4, 5, 6, 7, 8, 9, 10], [10]), ([11, 12, 0, 1, 2, 3, 4, 5, 6, 7, 8, 9, 10, 11, 12], [11])])
def laws_FnOnce.B21 : List Nat := [0, 0, 3, 7, 0, 0, 48, 112, 255, 511, 1023, 1023, 2047, 8191]
theorem laws_FnOnce.tab21 : rtab .any (opsOf Try.f14 21) = laws_FnOnce.T21 := by kernel_rfl
theorem laws_FnOnce.bits21 : waitsOk laws_FnOnce.T21.2 laws_FnOnce.B21 = true := by kernel_rfl
set_option maxHeartbeats 8000000 in
set_option maxRecDepth 100000 in
theorem laws_FnOnce.calls (k : Nat) (A0 : Option Addr) (c0 : Nat) (l0 : List Int) (A1 : Option Addr) (c1 : Nat) (l1 : List Int) (r : Bool) (w : World) (hr0 : Kd.C (Kd.int .u8) w A0 l0.length l0) (hc0 : l0.length ≤ c0) (hr1 : Kd.C (Kd.int .u8) w A1 l1.length l1) (hc1 : l1.length ≤ c1) (h : laws_FnOnce.f k l0 l1 = some r) :
  Calls Try.prog 14 #[.slice A0 l0.length c0, .slice A1 l1.length c1] w fun e w' => e = .returned (.bool r) ∧ Below w.heap.size w w' := by
 have HR0 := Aside0.mk hr0
 have HC0 := Aside0.mk hc0
 clear hr0 hc0
 have HR1 := Aside0.mk hr1
 have HC1 := Aside0.mk hc1
 clear hr1 hc1
 have HB := Aside0.mk (Below.refl w.heap.size w)
 have H : (if (wrap64 ((l0.length : Int) + (l1.length : Int))) > 1048576 then (some true) else ((spec_DrawSignOnce.f l0).bind fun bt900 => ((impl_SignOnce.f k bt900.1 bt900.2).bind fun bt902 => ((spec_SignOnce.f k bt900.1 bt900.2).bind fun bt906 => ((impl_PublicOf.f k bt900.1).bind fun bt910 => ((spec_PublicOf.f k bt900.1).bind fun bt912 => ((impl_KeyParts.f k bt900.1).bind fun bt914 => ((spec_KeyParts.f k bt900.1).bind fun bt918 => (if (bt902.2 != bt906.2) = true then (laws_FnOnce.j0 k l1 bt900.2 bt902.1 bt902.2 bt910.1 bt910.2 bt914.1 bt914.2 true) else ((laws_sameTexts.f k bt902.1 bt906.1).bind fun t922 => (if t922 = true then (if (bt910.2 != bt912.2) = true then (laws_FnOnce.j0 k l1 bt900.2 bt902.1 bt902.2 bt910.1 bt910.2 bt914.1 bt914.2 true) else (if bt910.1.toList = bt912.1.toList then (if (bt914.2 != bt918.2) = true then (laws_FnOnce.j0 k l1 bt900.2 bt902.1 bt902.2 bt910.1 bt910.2 bt914.1 bt914.2 true) else ((laws_sameTexts.f k bt914.1 bt918.1).bind fun t923 => (laws_FnOnce.j0 k l1 bt900.2 bt902.1 bt902.2 bt910.1 bt910.2 bt914.1 bt914.2 (!t923)))) else (laws_FnOnce.j0 k l1 bt900.2 bt902.1 bt902.2 bt910.1 bt910.2 bt914.1 bt914.2 true))) else (laws_FnOnce.j0 k l1 bt900.2 bt902.1 bt902.2 bt910.1 bt910.2 bt914.1 bt914.2 true)))))))))))) = some r := h
 clear h
 by_cases c3 : (wrap64 ((l0.length : Int) + (l1.length : Int))) > 1048576
 ·rw [if_pos c3] at H
  have c3b0 : decide (1048576 < (wrap64 ((l0.length : Int) + (l1.length : Int)))) = true := decide_eq_true c3
  clear c3
  as_aux_lemma =>
   obtain rfl := Option.some.inj H
   go_enter Try.func14, Try.ntmps14
   go_wp2
   go_ret
   exact ⟨by first | rfl | (simp [errW_none, errW_some] <;> rfl) | (simp [*, errW_none, errW_some] <;> rfl), by repeat (first | (with_reducible first | exact HB.out | apply below_alloc | apply pw_below_drewN | apply below_drew1) | exact HB.out)⟩
 ·rw [if_neg c3] at H
  have c3b0 : decide (1048576 < (wrap64 ((l0.length : Int) + (l1.length : Int)))) = false := decide_eq_false c3
  clear c3
  replace H := Option.bind_eq_some_iff.mp H
  obtain ⟨⟨t900, t901⟩, A40, H⟩ := H
  replace H : ((impl_SignOnce.f k t900 t901).bind fun bt902 => ((spec_SignOnce.f k t900 t901).bind fun bt906 => ((impl_PublicOf.f k t900).bind fun bt910 => ((spec_PublicOf.f k t900).bind fun bt912 => ((impl_KeyParts.f k t900).bind fun bt914 => ((spec_KeyParts.f k t900).bind fun bt918 => (if (bt902.2 != bt906.2) = true then (laws_FnOnce.j0 k l1 t901 bt902.1 bt902.2 bt910.1 bt910.2 bt914.1 bt914.2 true) else ((laws_sameTexts.f k bt902.1 bt906.1).bind fun t922 => (if t922 = true then (if (bt910.2 != bt912.2) = true then (laws_FnOnce.j0 k l1 t901 bt902.1 bt902.2 bt910.1 bt910.2 bt914.1 bt914.2 true) else (if bt910.1.toList = bt912.1.toList then (if (bt914.2 != bt918.2) = true then (laws_FnOnce.j0 k l1 t901 bt902.1 bt902.2 bt910.1 bt910.2 bt914.1 bt914.2 true) else ((laws_sameTexts.f k bt914.1 bt918.1).bind fun t923 => (laws_FnOnce.j0 k l1 t901 bt902.1 bt902.2 bt910.1 bt910.2 bt914.1 bt914.2 (!t923)))) else (laws_FnOnce.j0 k l1 t901 bt902.1 bt902.2 bt910.1 bt910.2 bt914.1 bt914.2 true))) else (laws_FnOnce.j0 k l1 t901 bt902.1 bt902.2 bt910.1 bt910.2 bt914.1 bt914.2 true)))))))))) = some r := H
  have A4 := Aside0.mk A40
  clear A40
  replace H := Option.bind_eq_some_iff.mp H
  obtain ⟨⟨t902, t903⟩, A50, H⟩ := H
  replace H : ((spec_SignOnce.f k t900 t901).bind fun bt906 => ((impl_PublicOf.f k t900).bind fun bt910 => ((spec_PublicOf.f k t900).bind fun bt912 => ((impl_KeyParts.f k t900).bind fun bt914 => ((spec_KeyParts.f k t900).bind fun bt918 => (if (t903 != bt906.2) = true then (laws_FnOnce.j0 k l1 t901 t902 t903 bt910.1 bt910.2 bt914.1 bt914.2 true) else ((laws_sameTexts.f k t902 bt906.1).bind fun t922 => (if t922 = true then (if (bt910.2 != bt912.2) = true then (laws_FnOnce.j0 k l1 t901 t902 t903 bt910.1 bt910.2 bt914.1 bt914.2 true) else (if bt910.1.toList = bt912.1.toList then (if (bt914.2 != bt918.2) = true then (laws_FnOnce.j0 k l1 t901 t902 t903 bt910.1 bt910.2 bt914.1 bt914.2 true) else ((laws_sameTexts.f k bt914.1 bt918.1).bind fun t923 => (laws_FnOnce.j0 k l1 t901 t902 t903 bt910.1 bt910.2 bt914.1 bt914.2 (!t923)))) else (laws_FnOnce.j0 k l1 t901 t902 t903 bt910.1 bt910.2 bt914.1 bt914.2 true))) else (laws_FnOnce.j0 k l1 t901 t902 t903 bt910.1 bt910.2 bt914.1 bt914.2 true))))))))) = some r := H
  have A5 := Aside0.mk A50
  clear A50
  replace H := Option.bind_eq_some_iff.mp H
  obtain ⟨⟨t906, t907⟩, A60, H⟩ := H
  replace H : ((impl_PublicOf.f k t900).bind fun bt910 => ((spec_PublicOf.f k t900).bind fun bt912 => ((impl_KeyParts.f k t900).bind fun bt914 => ((spec_KeyParts.f k t900).bind fun bt918 => (if (t903 != t907) = true then (laws_FnOnce.j0 k l1 t901 t902 t903 bt910.1 bt910.2 bt914.1 bt914.2 true) else ((laws_sameTexts.f k t902 t906).bind fun t922 => (if t922 = true then (if (bt910.2 != bt912.2) = true then (laws_FnOnce.j0 k l1 t901 t902 t903 bt910.1 bt910.2 bt914.1 bt914.2 true) else (if bt910.1.toList = bt912.1.toList then (if (bt914.2 != bt918.2) = true then (laws_FnOnce.j0 k l1 t901 t902 t903 bt910.1 bt910.2 bt914.1 bt914.2 true) else ((laws_sameTexts.f k bt914.1 bt918.1).bind fun t923 => (laws_FnOnce.j0 k l1 t901 t902 t903 bt910.1 bt910.2 bt914.1 bt914.2 (!t923)))) else (laws_FnOnce.j0 k l1 t901 t902 t903 bt910.1 bt910.2 bt914.1 bt914.2 true))) else (laws_FnOnce.j0 k l1 t901 t902 t903 bt910.1 bt910.2 bt914.1 bt914.2 true)))))))) = some r := H
  have A6 := Aside0.mk A60
  clear A60
  replace H := Option.bind_eq_some_iff.mp H
  obtain ⟨⟨t910, t911⟩, A70, H⟩ := H
  replace H : ((spec_PublicOf.f k t900).bind fun bt912 => ((impl_KeyParts.f k t900).bind fun bt914 => ((spec_KeyParts.f k t900).bind fun bt918 => (if (t903 != t907) = true then (laws_FnOnce.j0 k l1 t901 t902 t903 t910 t911 bt914.1 bt914.2 true) else ((laws_sameTexts.f k t902 t906).bind fun t922 => (if t922 = true then (if (t911 != bt912.2) = true then (laws_FnOnce.j0 k l1 t901 t902 t903 t910 t911 bt914.1 bt914.2 true) else (if t910.toList = bt912.1.toList then (if (bt914.2 != bt918.2) = true then (laws_FnOnce.j0 k l1 t901 t902 t903 t910 t911 bt914.1 bt914.2 true) else ((laws_sameTexts.f k bt914.1 bt918.1).bind fun t923 => (laws_FnOnce.j0 k l1 t901 t902 t903 t910 t911 bt914.1 bt914.2 (!t923)))) else (laws_FnOnce.j0 k l1 t901 t902 t903 t910 t911 bt914.1 bt914.2 true))) else (laws_FnOnce.j0 k l1 t901 t902 t903 t910 t911 bt914.1 bt914.2 true))))))) = some r := H
  have A7 := Aside0.mk A70
  clear A70
  replace H := Option.bind_eq_some_iff.mp H
  obtain ⟨⟨t912, t913⟩, A80, H⟩ := H
  replace H : ((impl_KeyParts.f k t900).bind fun bt914 => ((spec_KeyParts.f k t900).bind fun bt918 => (if (t903 != t907) = true then (laws_FnOnce.j0 k l1 t901 t902 t903 t910 t911 bt914.1 bt914.2 true) else ((laws_sameTexts.f k t902 t906).bind fun t922 => (if t922 = true then (if (t911 != t913) = true then (laws_FnOnce.j0 k l1 t901 t902 t903 t910 t911 bt914.1 bt914.2 true) else (if t910.toList = t912.toList then (if (bt914.2 != bt918.2) = true then (laws_FnOnce.j0 k l1 t901 t902 t903 t910 t911 bt914.1 bt914.2 true) else ((laws_sameTexts.f k bt914.1 bt918.1).bind fun t923 => (laws_FnOnce.j0 k l1 t901 t902 t903 t910 t911 bt914.1 bt914.2 (!t923)))) else (laws_FnOnce.j0 k l1 t901 t902 t903 t910 t911 bt914.1 bt914.2 true))) else (laws_FnOnce.j0 k l1 t901 t902 t903 t910 t911 bt914.1 bt914.2 true)))))) = some r := H
  have A8 := Aside0.mk A80
  clear A80
  replace H := Option.bind_eq_some_iff.mp H
  obtain ⟨⟨t914, t915⟩, A90, H⟩ := H
  replace H : ((spec_KeyParts.f k t900).bind fun bt918 => (if (t903 != t907) = true then (laws_FnOnce.j0 k l1 t901 t902 t903 t910 t911 t914 t915 true) else ((laws_sameTexts.f k t902 t906).bind fun t922 => (if t922 = true then (if (t911 != t913) = true then (laws_FnOnce.j0 k l1 t901 t902 t903 t910 t911 t914 t915 true) else (if t910.toList = t912.toList then (if (t915 != bt918.2) = true then (laws_FnOnce.j0 k l1 t901 t902 t903 t910 t911 t914 t915 true) else ((laws_sameTexts.f k t914 bt918.1).bind fun t923 => (laws_FnOnce.j0 k l1 t901 t902 t903 t910 t911 t914 t915 (!t923)))) else (laws_FnOnce.j0 k l1 t901 t902 t903 t910 t911 t914 t915 true))) else (laws_FnOnce.j0 k l1 t901 t902 t903 t910 t911 t914 t915 true))))) = some r := H
  have A9 := Aside0.mk A90
  clear A90
  replace H := Option.bind_eq_some_iff.mp H
  obtain ⟨⟨t918, t919⟩, A100, H⟩ := H
  replace H : (if (t903 != t907) = true then (laws_FnOnce.j0 k l1 t901 t902 t903 t910 t911 t914 t915 true) else ((laws_sameTexts.f k t902 t906).bind fun t922 => (if t922 = true then (if (t911 != t913) = true then (laws_FnOnce.j0 k l1 t901 t902 t903 t910 t911 t914 t915 true) else (if t910.toList = t912.toList then (if (t915 != t919) = true then (laws_FnOnce.j0 k l1 t901 t902 t903 t910 t911 t914 t915 true) else ((laws_sameTexts.f k t914 t918).bind fun t923 => (laws_FnOnce.j0 k l1 t901 t902 t903 t910 t911 t914 t915 (!t923)))) else (laws_FnOnce.j0 k l1 t901 t902 t903 t910 t911 t914 t915 true))) else (laws_FnOnce.j0 k l1 t901 t902 t903 t910 t911 t914 t915 true)))) = some r := H
  have A10 := Aside0.mk A100
  clear A100
  have HC11 := Aside0.mk H
  clear H
  go_enter Try.func14, Try.ntmps14
  go_upto_region 10 with (first | ((with_reducible refine gate_callee (f := 75) rfl ?_); refine goesL_ (some 49) rfl rfl Try.func75 (by kernel_rfl) rfl #[.slice A0 l0.length c0] rfl (by (try simp only [List.map_toArray, List.map_cons, List.map_nil]); first | done | rfl | (simp only [List.length_drop, List.length_take]; rfl)) ?_; (with_reducible refine (spec_DrawSignOnce.calls _ _ l0 t900 t901 _ ?side1 ?side2 A4.out).mono ?_); (case side1 => repeat (first | exact HR0.out | (with_reducible refine Kd.C_alloc ?_ _) | (with_reducible refine Kd.C_drewN ?_ _) | (with_reducible refine Kd.C_drew ?_))); (case side2 => exact HC0.out); rintro e w12 ⟨rfl, hb⟩; refine ⟨_, rfl, ?_⟩; have n0_ := Aside0.mk (below_step (by repeat (first | (with_reducible first | exact HB.out | apply below_alloc | apply pw_below_drewN | apply below_drew1) | exact HB.out)) hb); clear HB; have HB := n0_; clear n0_; (try clear hb); (try clear hb2); (try clear hk); (try clear hi)) | ((with_reducible refine gate_callee (f := 76) rfl ?_); refine goesL_ (some 55) rfl rfl Try.func76 (by kernel_rfl) rfl #[.string t900, .string t901] rfl (by (try simp only [List.map_toArray, List.map_cons, List.map_nil]); first | done | rfl | (simp only [List.length_drop, List.length_take]; rfl)) ?_; (with_reducible refine (impl_SignOnce.calls k t900 t901 t902 t903 _ A5.out).mono ?_); rintro e w13 ⟨v904, rfl, ho0, hb⟩; refine ⟨_, rfl, ?_⟩; have n0_ := Aside0.mk (Kd.R_lower ho0 (below_size (by repeat (first | (with_reducible first | exact HB.out | apply below_alloc | apply pw_below_drewN | apply below_drew1) | exact HB.out)))); have n1_ := Aside0.mk (below_step (by repeat (first | (with_reducible first | exact HB.out | apply below_alloc | apply pw_below_drewN | apply below_drew1) | exact HB.out)) hb); clear HB; have HO905 := n0_; have HB := n1_; clear n0_ n1_; (try clear hb); (try clear hb2); (try clear hk); (try clear hi); (try clear ho0)) | ((with_reducible refine gate_callee (f := 77) rfl ?_); refine goesL_ (some 61) rfl rfl Try.func77 (by kernel_rfl) rfl #[.string t900, .string t901] rfl (by (try simp only [List.map_toArray, List.map_cons, List.map_nil]); first | done | rfl | (simp only [List.length_drop, List.length_take]; rfl)) ?_; (with_reducible refine (spec_SignOnce.calls k t900 t901 t906 t907 _ A6.out).mono ?_); rintro e w14 ⟨v908, rfl, ho0, hb⟩; refine ⟨_, rfl, ?_⟩; have n0_ := Aside0.mk (Kd.R_elder' (by (with_reducible repeat (first | apply Kd.R_alloc | apply Kd.R_drewN | apply Kd.R_drew)); exact HO905.out) (Kd.R_base ho0) hb); have n1_ := Aside0.mk (Kd.R_lower (Kd.R_new' ho0 (Kd.R_lt (by (with_reducible repeat (first | apply Kd.R_alloc | apply Kd.R_drewN | apply Kd.R_drew)); exact HO905.out))) (below_size (by repeat (first | (with_reducible first | exact HB.out | apply below_alloc | apply pw_below_drewN | apply below_drew1) | exact HB.out)))); have n2_ := Aside0.mk (below_step (by repeat (first | (with_reducible first | exact HB.out | apply below_alloc | apply pw_below_drewN | apply below_drew1) | exact HB.out)) hb); clear HO905; clear HB; have HO905 := n0_; have HO909 := n1_; have HB := n2_; clear n0_ n1_ n2_; (try clear hb); (try clear hb2); (try clear hk); (try clear hi); (try clear ho0)) | ((with_reducible refine gate_callee (f := 78) rfl ?_); refine goesL_ (some 66) rfl rfl Try.func78 (by kernel_rfl) rfl #[.string t900] rfl (by (try simp only [List.map_toArray, List.map_cons, List.map_nil]); first | done | rfl | (simp only [List.length_drop, List.length_take]; rfl)) ?_; (with_reducible refine (impl_PublicOf.calls k t900 t910 t911 _ A7.out).mono ?_); rintro e w15 ⟨rfl, hb⟩; refine ⟨_, rfl, ?_⟩; have n0_ := Aside0.mk (Kd.R_below (by (with_reducible repeat (first | apply Kd.R_alloc | apply Kd.R_drewN | apply Kd.R_drew)); exact HO905.out) hb); have n1_ := Aside0.mk (Kd.R_below (by (with_reducible repeat (first | apply Kd.R_alloc | apply Kd.R_drewN | apply Kd.R_drew)); exact HO909.out) hb); have n2_ := Aside0.mk (below_step (by repeat (first | (with_reducible first | exact HB.out | apply below_alloc | apply pw_below_drewN | apply below_drew1) | exact HB.out)) hb); clear HO905; clear HO909; clear HB; have HO905 := n0_; have HO909 := n1_; have HB := n2_; clear n0_ n1_ n2_; (try clear hb); (try clear hb2); (try clear hk); (try clear hi)) | ((with_reducible refine gate_callee (f := 79) rfl ?_); refine goesL_ (some 71) rfl rfl Try.func79 (by kernel_rfl) rfl #[.string t900] rfl (by (try simp only [List.map_toArray, List.map_cons, List.map_nil]); first | done | rfl | (simp only [List.length_drop, List.length_take]; rfl)) ?_; (with_reducible refine (spec_PublicOf.calls k t900 t912 t913 _ A8.out).mono ?_); rintro e w16 ⟨rfl, hb⟩; refine ⟨_, rfl, ?_⟩; have n0_ := Aside0.mk (Kd.R_below (by (with_reducible repeat (first | apply Kd.R_alloc | apply Kd.R_drewN | apply Kd.R_drew)); exact HO905.out) hb); have n1_ := Aside0.mk (Kd.R_below (by (with_reducible repeat (first | apply Kd.R_alloc | apply Kd.R_drewN | apply Kd.R_drew)); exact HO909.out) hb); have n2_ := Aside0.mk (below_step (by repeat (first | (with_reducible first | exact HB.out | apply below_alloc | apply pw_below_drewN | apply below_drew1) | exact HB.out)) hb); clear HO905; clear HO909; clear HB; have HO905 := n0_; have HO909 := n1_; have HB := n2_; clear n0_ n1_ n2_; (try clear hb); (try clear hb2); (try clear hk); (try clear hi)) | ((with_reducible refine gate_callee (f := 80) rfl ?_); refine goesL_ (some 76) rfl rfl Try.func80 (by kernel_rfl) rfl #[.string t900] rfl (by (try simp only [List.map_toArray, List.map_cons, List.map_nil]); first | done | rfl | (simp only [List.length_drop, List.length_take]; rfl)) ?_; (with_reducible refine (impl_KeyParts.calls k t900 t914 t915 _ A9.out).mono ?_); rintro e w17 ⟨v916, rfl, ho0, hb⟩; refine ⟨_, rfl, ?_⟩; have n0_ := Aside0.mk (Kd.R_elder' (by (with_reducible repeat (first | apply Kd.R_alloc | apply Kd.R_drewN | apply Kd.R_drew)); exact HO905.out) (Kd.R_base ho0) hb); have n1_ := Aside0.mk (Kd.R_elder' (by (with_reducible repeat (first | apply Kd.R_alloc | apply Kd.R_drewN | apply Kd.R_drew)); exact HO909.out) (Kd.R_base ho0) hb); have n2_ := Aside0.mk (Kd.R_lower (Kd.R_new' (Kd.R_new' ho0 (Kd.R_lt (by (with_reducible repeat (first | apply Kd.R_alloc | apply Kd.R_drewN | apply Kd.R_drew)); exact HO905.out))) (Kd.R_lt (by (with_reducible repeat (first | apply Kd.R_alloc | apply Kd.R_drewN | apply Kd.R_drew)); exact HO909.out))) (below_size (by repeat (first | (with_reducible first | exact HB.out | apply below_alloc | apply pw_below_drewN | apply below_drew1) | exact HB.out)))); have n3_ := Aside0.mk (below_step (by repeat (first | (with_reducible first | exact HB.out | apply below_alloc | apply pw_below_drewN | apply below_drew1) | exact HB.out)) hb); clear HO905; clear HO909; clear HB; have HO905 := n0_; have HO909 := n1_; have HO917 := n2_; have HB := n3_; clear n0_ n1_ n2_ n3_; (try clear hb); (try clear hb2); (try clear hk); (try clear hi); (try clear ho0)) | ((with_reducible refine gate_callee (f := 81) rfl ?_); refine goesL_ (some 81) rfl rfl Try.func81 (by kernel_rfl) rfl #[.string t900] rfl (by (try simp only [List.map_toArray, List.map_cons, List.map_nil]); first | done | rfl | (simp only [List.length_drop, List.length_take]; rfl)) ?_; (with_reducible refine (spec_KeyParts.calls k t900 t918 t919 _ A10.out).mono ?_); rintro e w18 ⟨v920, rfl, ho0, hb⟩; refine ⟨_, rfl, ?_⟩; have n0_ := Aside0.mk (Kd.R_elder' (by (with_reducible repeat (first | apply Kd.R_alloc | apply Kd.R_drewN | apply Kd.R_drew)); exact HO905.out) (Kd.R_base ho0) hb); have n1_ := Aside0.mk (Kd.R_elder' (by (with_reducible repeat (first | apply Kd.R_alloc | apply Kd.R_drewN | apply Kd.R_drew)); exact HO909.out) (Kd.R_base ho0) hb); have n2_ := Aside0.mk (Kd.R_elder' (by (with_reducible repeat (first | apply Kd.R_alloc | apply Kd.R_drewN | apply Kd.R_drew)); exact HO917.out) (Kd.R_base ho0) hb); have n3_ := Aside0.mk (Kd.R_lower (Kd.R_new' (Kd.R_new' (Kd.R_new' ho0 (Kd.R_lt (by (with_reducible repeat (first | apply Kd.R_alloc | apply Kd.R_drewN | apply Kd.R_drew)); exact HO905.out))) (Kd.R_lt (by (with_reducible repeat (first | apply Kd.R_alloc | apply Kd.R_drewN | apply Kd.R_drew)); exact HO909.out))) (Kd.R_lt (by (with_reducible repeat (first | apply Kd.R_alloc | apply Kd.R_drewN | apply Kd.R_drew)); exact HO917.out))) (below_size (by repeat (first | (with_reducible first | exact HB.out | apply below_alloc | apply pw_below_drewN | apply below_drew1) | exact HB.out)))); have n4_ := Aside0.mk (below_step (by repeat (first | (with_reducible first | exact HB.out | apply below_alloc | apply pw_below_drewN | apply below_drew1) | exact HB.out)) hb); clear HO905; clear HO909; clear HO917; clear HB; have HO905 := n0_; have HO909 := n1_; have HO917 := n2_; have HO921 := n3_; have HB := n4_; clear n0_ n1_ n2_ n3_ n4_; (try clear hb); (try clear hb2); (try clear hk); (try clear hi); (try clear ho0)))
  (try simp only [Act.put, List.setIfInBounds_toArray, List.set_cons_zero, List.set_cons_succ])
  go_cut [113] (fun v113 wc => ∃ (kq : Nat) (x113_10 : Bool), v113 = .bool x113_10 ∧ Aside0 (laws_FnOnce.j0 kq l1 t901 t902 t903 t910 t911 t914 t915 x113_10 = some r) ∧ Aside0 (kq ≤ k) ∧ Aside0 (Kd.R Kd.string 9 wc w.heap.size (fun k_ => some k_ ≠ (v916 : Value).ownBlock) v904 t902) ∧ Aside0 (Kd.R Kd.string 9 wc w.heap.size (fun k_ => some k_ ≠ (v904 : Value).ownBlock) v916 t914) ∧ Aside0 (Below w.heap.size w wc))
  case first =>
   have H := HC11.out
   clear HC11
   by_cases c19 : (t903 != t907) = true
   ·rw [if_pos c19] at H
    have c19b0 : (t903 != t907) = true := c19
    (try (have c19b1 : decide (t903 = t907) = false := by simpa using c19))
    (try (have c19b2 : (t903 == t907) = false := by simpa using c19))
    (try (have c19b3 : ¬ (t903 = t907) := by simpa using c19))
    clear c19
    (first | rw [c19b0] | (simp only [i64_w, i32_w]; rw [c19b0]) | skip)
    as_aux_lemma =>
     have H' := Aside0.mk H
     clear H
     go_wp2
     go_meet
     case rel => exact ⟨_, (true), (by first | rfl | (simp; done) | (simp [*]; done) | (simp [bne]; done)), H', ⟨by first | omega | exact Nat.le_refl _⟩, ⟨by (with_reducible repeat (first | apply Kd.R_alloc | apply Kd.R_drewN | apply Kd.R_drew)); exact Kd.R_mono HO905.out (fun _ hk => hk.1.2)⟩, ⟨by (with_reducible repeat (first | apply Kd.R_alloc | apply Kd.R_drewN | apply Kd.R_drew)); exact Kd.R_mono HO917.out (fun _ hk => hk.1.1.2)⟩, ⟨by repeat (first | (with_reducible first | exact HB.out | apply below_alloc | apply pw_below_drewN | apply below_drew1) | exact HB.out)⟩⟩
   ·rw [if_neg c19] at H
    have c19b0 : (t903 != t907) = false := by simpa using c19
    (try (have c19b1 : decide (t903 = t907) = true := by simpa using c19))
    (try (have c19b2 : (t903 == t907) = true := by simpa using c19))
    clear c19
    (first | rw [c19b0] | (simp only [i64_w, i32_w]; rw [c19b0]) | skip)
    replace H := Option.bind_eq_some_iff.mp H
    obtain ⟨t922, A200, H⟩ := H
    replace H : (if t922 = true then (if (t911 != t913) = true then (laws_FnOnce.j0 k l1 t901 t902 t903 t910 t911 t914 t915 true) else (if t910.toList = t912.toList then (if (t915 != t919) = true then (laws_FnOnce.j0 k l1 t901 t902 t903 t910 t911 t914 t915 true) else ((laws_sameTexts.f k t914 t918).bind fun t923 => (laws_FnOnce.j0 k l1 t901 t902 t903 t910 t911 t914 t915 (!t923)))) else (laws_FnOnce.j0 k l1 t901 t902 t903 t910 t911 t914 t915 true))) else (laws_FnOnce.j0 k l1 t901 t902 t903 t910 t911 t914 t915 true)) = some r := H
    have A20 := Aside0.mk A200
    clear A200
    by_cases c21 : t922 = true
    ·subst c21
     have H1 : (if (t911 != t913) = true then (laws_FnOnce.j0 k l1 t901 t902 t903 t910 t911 t914 t915 true) else (if t910.toList = t912.toList then (if (t915 != t919) = true then (laws_FnOnce.j0 k l1 t901 t902 t903 t910 t911 t914 t915 true) else ((laws_sameTexts.f k t914 t918).bind fun t923 => (laws_FnOnce.j0 k l1 t901 t902 t903 t910 t911 t914 t915 (!t923)))) else (laws_FnOnce.j0 k l1 t901 t902 t903 t910 t911 t914 t915 true))) = some r := by rw [if_pos rfl] at H; exact H
     clear H
     have H := H1
     clear H1
     by_cases c22 : (t911 != t913) = true
     ·rw [if_pos c22] at H
      have c22b0 : (t911 != t913) = true := c22
      (try (have c22b1 : decide (t911 = t913) = false := by simpa using c22))
      (try (have c22b2 : (t911 == t913) = false := by simpa using c22))
      (try (have c22b3 : ¬ (t911 = t913) := by simpa using c22))
      clear c22
      as_aux_lemma =>
       have H' := Aside0.mk H
       clear H
       obtain ⟨Ao23, co23, eo23⟩ := Kd.R_slice HO905.out
       subst eo23
       obtain ⟨Ao24, co24, eo24⟩ := Kd.R_slice HO909.out
       subst eo24
       go_wp2_with (first | (go_at_call 82; (with_reducible refine (laws_sameTexts.calls k _ _ t902 _ _ t906 true _ ?side1 ?side2 ?side3 ?side4 A20.out).mono ?_); (case side1 => repeat (first | exact (Kd.R_reads' HO905.out).2.2 | (with_reducible refine Kd.C_alloc ?_ _) | (with_reducible refine Kd.C_drewN ?_ _) | (with_reducible refine Kd.C_drew ?_))); (case side2 => exact (Kd.R_reads' HO905.out).2.1); (case side3 => repeat (first | exact (Kd.R_reads' HO909.out).2.2 | (with_reducible refine Kd.C_alloc ?_ _) | (with_reducible refine Kd.C_drewN ?_ _) | (with_reducible refine Kd.C_drew ?_))); (case side4 => exact (Kd.R_reads' HO909.out).2.1); rintro e w' ⟨rfl, ⟨nd, rfl⟩⟩))
       go_meet
       case rel => exact ⟨_, (true), (by first | rfl | (simp; done) | (simp [*]; done) | (simp [bne]; done)), H', ⟨by first | omega | exact Nat.le_refl _⟩, ⟨by (with_reducible repeat (first | apply Kd.R_alloc | apply Kd.R_drewN | apply Kd.R_drew)); exact Kd.R_mono HO905.out (fun _ hk => hk.1.2)⟩, ⟨by (with_reducible repeat (first | apply Kd.R_alloc | apply Kd.R_drewN | apply Kd.R_drew)); exact Kd.R_mono HO917.out (fun _ hk => hk.1.1.2)⟩, ⟨by repeat (first | (with_reducible first | exact HB.out | apply below_alloc | apply pw_below_drewN | apply below_drew1) | exact HB.out)⟩⟩
     ·rw [if_neg c22] at H
      have c22b0 : (t911 != t913) = false := by simpa using c22
      (try (have c22b1 : decide (t911 = t913) = true := by simpa using c22))
      (try (have c22b2 : (t911 == t913) = true := by simpa using c22))
      clear c22
      by_cases c25 : t910.toList = t912.toList
      ·rw [if_pos c25] at H
       have c25b0 : (t910.toList == t912.toList) = true := beq_iff_eq.mpr c25
       have c25b1 : (t910.toList != t912.toList) = false := bne_eq_false_iff_eq.mpr c25
       clear c25
       by_cases c26 : (t915 != t919) = true
       ·rw [if_pos c26] at H
        have c26b0 : (t915 != t919) = true := c26
        (try (have c26b1 : decide (t915 = t919) = false := by simpa using c26))
        (try (have c26b2 : (t915 == t919) = false := by simpa using c26))
        (try (have c26b3 : ¬ (t915 = t919) := by simpa using c26))
        clear c26
        as_aux_lemma =>
         have H' := Aside0.mk H
         clear H
         obtain ⟨Ao27, co27, eo27⟩ := Kd.R_slice HO905.out
         subst eo27
         obtain ⟨Ao28, co28, eo28⟩ := Kd.R_slice HO909.out
         subst eo28
         go_wp2_with (first | (go_at_call 82; (with_reducible refine (laws_sameTexts.calls k _ _ t902 _ _ t906 true _ ?side1 ?side2 ?side3 ?side4 A20.out).mono ?_); (case side1 => repeat (first | exact (Kd.R_reads' HO905.out).2.2 | (with_reducible refine Kd.C_alloc ?_ _) | (with_reducible refine Kd.C_drewN ?_ _) | (with_reducible refine Kd.C_drew ?_))); (case side2 => exact (Kd.R_reads' HO905.out).2.1); (case side3 => repeat (first | exact (Kd.R_reads' HO909.out).2.2 | (with_reducible refine Kd.C_alloc ?_ _) | (with_reducible refine Kd.C_drewN ?_ _) | (with_reducible refine Kd.C_drew ?_))); (case side4 => exact (Kd.R_reads' HO909.out).2.1); rintro e w' ⟨rfl, ⟨nd, rfl⟩⟩))
         go_meet
         case rel => exact ⟨_, (true), (by first | rfl | (simp; done) | (simp [*]; done) | (simp [bne]; done)), H', ⟨by first | omega | exact Nat.le_refl _⟩, ⟨by (with_reducible repeat (first | apply Kd.R_alloc | apply Kd.R_drewN | apply Kd.R_drew)); exact Kd.R_mono HO905.out (fun _ hk => hk.1.2)⟩, ⟨by (with_reducible repeat (first | apply Kd.R_alloc | apply Kd.R_drewN | apply Kd.R_drew)); exact Kd.R_mono HO917.out (fun _ hk => hk.1.1.2)⟩, ⟨by repeat (first | (with_reducible first | exact HB.out | apply below_alloc | apply pw_below_drewN | apply below_drew1) | exact HB.out)⟩⟩
       ·rw [if_neg c26] at H
        have c26b0 : (t915 != t919) = false := by simpa using c26
        (try (have c26b1 : decide (t915 = t919) = true := by simpa using c26))
        (try (have c26b2 : (t915 == t919) = true := by simpa using c26))
        clear c26
        replace H := Option.bind_eq_some_iff.mp H
        obtain ⟨t923, A290, H⟩ := H
        replace H : (laws_FnOnce.j0 k l1 t901 t902 t903 t910 t911 t914 t915 (!t923)) = some r := H
        have A29 := Aside0.mk A290
        clear A290
        as_aux_lemma =>
         have H' := Aside0.mk H
         clear H
         obtain ⟨Ao30, co30, eo30⟩ := Kd.R_slice HO905.out
         subst eo30
         obtain ⟨Ao31, co31, eo31⟩ := Kd.R_slice HO909.out
         subst eo31
         go_wp2_with (first | (go_at_call 82; (with_reducible refine (laws_sameTexts.calls k _ _ t902 _ _ t906 true _ ?side1 ?side2 ?side3 ?side4 A20.out).mono ?_); (case side1 => repeat (first | exact (Kd.R_reads' HO905.out).2.2 | (with_reducible refine Kd.C_alloc ?_ _) | (with_reducible refine Kd.C_drewN ?_ _) | (with_reducible refine Kd.C_drew ?_))); (case side2 => exact (Kd.R_reads' HO905.out).2.1); (case side3 => repeat (first | exact (Kd.R_reads' HO909.out).2.2 | (with_reducible refine Kd.C_alloc ?_ _) | (with_reducible refine Kd.C_drewN ?_ _) | (with_reducible refine Kd.C_drew ?_))); (case side4 => exact (Kd.R_reads' HO909.out).2.1); rintro e w' ⟨rfl, ⟨nd, rfl⟩⟩; obtain ⟨Ao32, co32, eo32⟩ := Kd.R_slice HO917.out; subst eo32; obtain ⟨Ao33, co33, eo33⟩ := Kd.R_slice HO921.out; subst eo33) | (go_at_call 82; (with_reducible refine (laws_sameTexts.calls k _ _ t914 _ _ t918 t923 _ ?side1 ?side2 ?side3 ?side4 A29.out).mono ?_); (case side1 => repeat (first | exact (Kd.R_reads' HO917.out).2.2 | (with_reducible refine Kd.C_alloc ?_ _) | (with_reducible refine Kd.C_drewN ?_ _) | (with_reducible refine Kd.C_drew ?_))); (case side2 => exact (Kd.R_reads' HO917.out).2.1); (case side3 => repeat (first | exact (Kd.R_reads' HO921.out).2.2 | (with_reducible refine Kd.C_alloc ?_ _) | (with_reducible refine Kd.C_drewN ?_ _) | (with_reducible refine Kd.C_drew ?_))); (case side4 => exact (Kd.R_reads' HO921.out).2.1); rintro e w' ⟨rfl, ⟨nd, rfl⟩⟩))
         go_meet
         case rel => exact ⟨_, (!t923), (by first | rfl | (simp; done) | (simp [*]; done) | (simp [bne]; done)), H', ⟨by first | omega | exact Nat.le_refl _⟩, ⟨by (with_reducible repeat (first | apply Kd.R_alloc | apply Kd.R_drewN | apply Kd.R_drew)); exact Kd.R_mono HO905.out (fun _ hk => hk.1.2)⟩, ⟨by (with_reducible repeat (first | apply Kd.R_alloc | apply Kd.R_drewN | apply Kd.R_drew)); exact Kd.R_mono HO917.out (fun _ hk => hk.1.1.2)⟩, ⟨by repeat (first | (with_reducible first | exact HB.out | apply below_alloc | apply pw_below_drewN | apply below_drew1) | exact HB.out)⟩⟩
      ·rw [if_neg c25] at H
       have c25b0 : (t910.toList == t912.toList) = false := beq_eq_false_iff_ne.mpr c25
       have c25b1 : (t910.toList != t912.toList) = true := bne_iff_ne.mpr c25
       as_aux_lemma =>
        have H' := Aside0.mk H
        clear H
        obtain ⟨Ao34, co34, eo34⟩ := Kd.R_slice HO905.out
        subst eo34
        obtain ⟨Ao35, co35, eo35⟩ := Kd.R_slice HO909.out
        subst eo35
        go_wp2_with (first | (go_at_call 82; (with_reducible refine (laws_sameTexts.calls k _ _ t902 _ _ t906 true _ ?side1 ?side2 ?side3 ?side4 A20.out).mono ?_); (case side1 => repeat (first | exact (Kd.R_reads' HO905.out).2.2 | (with_reducible refine Kd.C_alloc ?_ _) | (with_reducible refine Kd.C_drewN ?_ _) | (with_reducible refine Kd.C_drew ?_))); (case side2 => exact (Kd.R_reads' HO905.out).2.1); (case side3 => repeat (first | exact (Kd.R_reads' HO909.out).2.2 | (with_reducible refine Kd.C_alloc ?_ _) | (with_reducible refine Kd.C_drewN ?_ _) | (with_reducible refine Kd.C_drew ?_))); (case side4 => exact (Kd.R_reads' HO909.out).2.1); rintro e w' ⟨rfl, ⟨nd, rfl⟩⟩))
        go_meet
        case rel => exact ⟨_, (true), (by first | rfl | (simp; done) | (simp [*]; done) | (simp [bne]; done)), H', ⟨by first | omega | exact Nat.le_refl _⟩, ⟨by (with_reducible repeat (first | apply Kd.R_alloc | apply Kd.R_drewN | apply Kd.R_drew)); exact Kd.R_mono HO905.out (fun _ hk => hk.1.2)⟩, ⟨by (with_reducible repeat (first | apply Kd.R_alloc | apply Kd.R_drewN | apply Kd.R_drew)); exact Kd.R_mono HO917.out (fun _ hk => hk.1.1.2)⟩, ⟨by repeat (first | (with_reducible first | exact HB.out | apply below_alloc | apply pw_below_drewN | apply below_drew1) | exact HB.out)⟩⟩
    ·replace c21 := Bool.eq_false_iff.mpr c21
     subst c21
     have H1 : (laws_FnOnce.j0 k l1 t901 t902 t903 t910 t911 t914 t915 true) = some r := by rw [if_neg (show ¬ (false = true) by decide)] at H; exact H
     clear H
     have H := H1
     clear H1
     as_aux_lemma =>
      have H' := Aside0.mk H
      clear H
      obtain ⟨Ao36, co36, eo36⟩ := Kd.R_slice HO905.out
      subst eo36
      obtain ⟨Ao37, co37, eo37⟩ := Kd.R_slice HO909.out
      subst eo37
      go_wp2_with (first | (go_at_call 82; (with_reducible refine (laws_sameTexts.calls k _ _ t902 _ _ t906 false _ ?side1 ?side2 ?side3 ?side4 A20.out).mono ?_); (case side1 => repeat (first | exact (Kd.R_reads' HO905.out).2.2 | (with_reducible refine Kd.C_alloc ?_ _) | (with_reducible refine Kd.C_drewN ?_ _) | (with_reducible refine Kd.C_drew ?_))); (case side2 => exact (Kd.R_reads' HO905.out).2.1); (case side3 => repeat (first | exact (Kd.R_reads' HO909.out).2.2 | (with_reducible refine Kd.C_alloc ?_ _) | (with_reducible refine Kd.C_drewN ?_ _) | (with_reducible refine Kd.C_drew ?_))); (case side4 => exact (Kd.R_reads' HO909.out).2.1); rintro e w' ⟨rfl, ⟨nd, rfl⟩⟩))
      go_meet
      case rel => exact ⟨_, (true), (by first | rfl | (simp; done) | (simp [*]; done) | (simp [bne]; done)), H', ⟨by first | omega | exact Nat.le_refl _⟩, ⟨by (with_reducible repeat (first | apply Kd.R_alloc | apply Kd.R_drewN | apply Kd.R_drew)); exact Kd.R_mono HO905.out (fun _ hk => hk.1.2)⟩, ⟨by (with_reducible repeat (first | apply Kd.R_alloc | apply Kd.R_drewN | apply Kd.R_drew)); exact Kd.R_mono HO917.out (fun _ hk => hk.1.1.2)⟩, ⟨by repeat (first | (with_reducible first | exact HB.out | apply below_alloc | apply pw_below_drewN | apply below_drew1) | exact HB.out)⟩⟩
  case rest =>
   clear HC11
   try clear c1
   try clear c2
   try clear p2
   try clear c3
   try clear c3b0
   try clear p6
   try clear c7
   try clear c8
   try clear c14
   try clear c19
   try clear c19b0
   try clear c19b1
   try clear c19b2
   try clear c21
   try clear c22
   try clear c22b0
   try clear c22b1
   try clear c22b2
   try clear c25
   try clear c25b0
   try clear c25b1
   try clear c26
   try clear c26b0
   try clear c26b1
   try clear c26b2
   obtain ⟨kq, x113_10, rfl, HA, HJ10, HO_7, HO_15, HB⟩ := hcut
   cases kq with
   | zero => exact absurd HA.out (by simp [laws_FnOnce.j0])
   | succ kj10 =>
    have H := HA.out
    clear HA
    simp only [laws_FnOnce.j0] at H
    by_cases c38 : x113_10 = true
    ·subst c38
     have H1 : (some false) = some r := by rw [if_pos rfl] at H; exact H
     clear H
     have H := H1
     clear H1
     as_aux_lemma =>
      obtain rfl := Option.some.inj H
      go_wp2
      go_ret
      exact ⟨by first | rfl | (simp [errW_none, errW_some] <;> rfl) | (simp [*, errW_none, errW_some] <;> rfl), by repeat (first | (with_reducible first | exact HB.out | apply below_alloc | apply pw_below_drewN | apply below_drew1) | exact HB.out)⟩
    ·replace c38 := Bool.eq_false_iff.mpr c38
     subst c38
     have H1 : (if t903 = true then ((impl_CheckOnce.f kj10 t910 t901 t902).bind fun bt924 => ((impl_PublicFrom.f kj10 t901 t902).bind fun bt926 => ((impl_DigitsOf.f kj10 t901).bind fun bt928 => (if t911 = true then (if bt924.2 = true then (if bt924.1 = true then (if bt926.2 = true then (if bt926.1.toList = t910.toList then (if bt928.2 = true then (if t915 = true then (laws_FnOnce.j1 kj10 l1 t902 t914 bt928.1 ((t914.length : Int) != (t902.length : Int))) else (laws_FnOnce.j1 kj10 l1 t902 t914 bt928.1 true)) else (laws_FnOnce.j1 kj10 l1 t902 t914 bt928.1 true)) else (laws_FnOnce.j1 kj10 l1 t902 t914 bt928.1 true)) else (laws_FnOnce.j1 kj10 l1 t902 t914 bt928.1 true)) else (laws_FnOnce.j1 kj10 l1 t902 t914 bt928.1 true)) else (laws_FnOnce.j1 kj10 l1 t902 t914 bt928.1 true)) else (laws_FnOnce.j1 kj10 l1 t902 t914 bt928.1 true))))) else (laws_FnOnce.j3 kj10 l1)) = some r := by rw [if_neg (show ¬ (false = true) by decide)] at H; exact H
     clear H
     have H := H1
     clear H1
     have HC39 := Aside0.mk H
     clear H
     go_upto_if 114 with (fail)
     go_cut [] (fun wc => ∃ (kq : Nat), Aside0 (laws_FnOnce.j3 kq l1 = some r) ∧ Aside0 (kq ≤ kj10) ∧ Aside0 (Below w.heap.size w wc))
     case first =>
      have H := HC39.out
      clear HC39
      by_cases c40 : t903 = true
      ·subst c40
       have H1 : ((impl_CheckOnce.f kj10 t910 t901 t902).bind fun bt924 => ((impl_PublicFrom.f kj10 t901 t902).bind fun bt926 => ((impl_DigitsOf.f kj10 t901).bind fun bt928 => (if t911 = true then (if bt924.2 = true then (if bt924.1 = true then (if bt926.2 = true then (if bt926.1.toList = t910.toList then (if bt928.2 = true then (if t915 = true then (laws_FnOnce.j1 kj10 l1 t902 t914 bt928.1 ((t914.length : Int) != (t902.length : Int))) else (laws_FnOnce.j1 kj10 l1 t902 t914 bt928.1 true)) else (laws_FnOnce.j1 kj10 l1 t902 t914 bt928.1 true)) else (laws_FnOnce.j1 kj10 l1 t902 t914 bt928.1 true)) else (laws_FnOnce.j1 kj10 l1 t902 t914 bt928.1 true)) else (laws_FnOnce.j1 kj10 l1 t902 t914 bt928.1 true)) else (laws_FnOnce.j1 kj10 l1 t902 t914 bt928.1 true)) else (laws_FnOnce.j1 kj10 l1 t902 t914 bt928.1 true))))) = some r := by rw [if_pos rfl] at H; exact H
       clear H
       have H := H1
       clear H1
       replace H := Option.bind_eq_some_iff.mp H
       obtain ⟨⟨t924, t925⟩, A410, H⟩ := H
       replace H : ((impl_PublicFrom.f kj10 t901 t902).bind fun bt926 => ((impl_DigitsOf.f kj10 t901).bind fun bt928 => (if t911 = true then (if t925 = true then (if t924 = true then (if bt926.2 = true then (if bt926.1.toList = t910.toList then (if bt928.2 = true then (if t915 = true then (laws_FnOnce.j1 kj10 l1 t902 t914 bt928.1 ((t914.length : Int) != (t902.length : Int))) else (laws_FnOnce.j1 kj10 l1 t902 t914 bt928.1 true)) else (laws_FnOnce.j1 kj10 l1 t902 t914 bt928.1 true)) else (laws_FnOnce.j1 kj10 l1 t902 t914 bt928.1 true)) else (laws_FnOnce.j1 kj10 l1 t902 t914 bt928.1 true)) else (laws_FnOnce.j1 kj10 l1 t902 t914 bt928.1 true)) else (laws_FnOnce.j1 kj10 l1 t902 t914 bt928.1 true)) else (laws_FnOnce.j1 kj10 l1 t902 t914 bt928.1 true)))) = some r := H
       have A41 := Aside0.mk A410
       clear A410
       replace H := Option.bind_eq_some_iff.mp H
       obtain ⟨⟨t926, t927⟩, A420, H⟩ := H
       replace H : ((impl_DigitsOf.f kj10 t901).bind fun bt928 => (if t911 = true then (if t925 = true then (if t924 = true then (if t927 = true then (if t926.toList = t910.toList then (if bt928.2 = true then (if t915 = true then (laws_FnOnce.j1 kj10 l1 t902 t914 bt928.1 ((t914.length : Int) != (t902.length : Int))) else (laws_FnOnce.j1 kj10 l1 t902 t914 bt928.1 true)) else (laws_FnOnce.j1 kj10 l1 t902 t914 bt928.1 true)) else (laws_FnOnce.j1 kj10 l1 t902 t914 bt928.1 true)) else (laws_FnOnce.j1 kj10 l1 t902 t914 bt928.1 true)) else (laws_FnOnce.j1 kj10 l1 t902 t914 bt928.1 true)) else (laws_FnOnce.j1 kj10 l1 t902 t914 bt928.1 true)) else (laws_FnOnce.j1 kj10 l1 t902 t914 bt928.1 true))) = some r := H
       have A42 := Aside0.mk A420
       clear A420
       replace H := Option.bind_eq_some_iff.mp H
       obtain ⟨⟨t928, t929⟩, A430, H⟩ := H
       replace H : (if t911 = true then (if t925 = true then (if t924 = true then (if t927 = true then (if t926.toList = t910.toList then (if t929 = true then (if t915 = true then (laws_FnOnce.j1 kj10 l1 t902 t914 t928 ((t914.length : Int) != (t902.length : Int))) else (laws_FnOnce.j1 kj10 l1 t902 t914 t928 true)) else (laws_FnOnce.j1 kj10 l1 t902 t914 t928 true)) else (laws_FnOnce.j1 kj10 l1 t902 t914 t928 true)) else (laws_FnOnce.j1 kj10 l1 t902 t914 t928 true)) else (laws_FnOnce.j1 kj10 l1 t902 t914 t928 true)) else (laws_FnOnce.j1 kj10 l1 t902 t914 t928 true)) else (laws_FnOnce.j1 kj10 l1 t902 t914 t928 true)) = some r := H
       have A43 := Aside0.mk A430
       clear A430
       have HC44 := Aside0.mk H
       clear H
       obtain ⟨Ao45, co45, eo45⟩ := Kd.R_slice HO_7.out
       subst eo45
       go_upto_region 16 with (first | ((with_reducible refine gate_callee (f := 83) rfl ?_); refine goesL_ (some 119) rfl rfl Try.func83 (by kernel_rfl) rfl #[.string t910, .string t901, .slice Ao45 t902.length co45] rfl (by (try simp only [List.map_toArray, List.map_cons, List.map_nil]); first | done | rfl | (simp only [List.length_drop, List.length_take]; rfl)) ?_; (with_reducible refine (impl_CheckOnce.calls kj10 t910 t901 _ _ t902 t924 t925 _ ?side1 ?side2 A41.out).mono ?_); (case side1 => repeat (first | exact (Kd.R_reads' HO_7.out).2.2 | (with_reducible refine Kd.C_alloc ?_ _) | (with_reducible refine Kd.C_drewN ?_ _) | (with_reducible refine Kd.C_drew ?_))); (case side2 => exact (Kd.R_reads' HO_7.out).2.1); rintro e w46 ⟨rfl, hb⟩; refine ⟨_, rfl, ?_⟩; have n0_ := Aside0.mk (Kd.R_below (by (with_reducible repeat (first | apply Kd.R_alloc | apply Kd.R_drewN | apply Kd.R_drew)); exact HO_7.out) hb); have n1_ := Aside0.mk (Kd.R_below (by (with_reducible repeat (first | apply Kd.R_alloc | apply Kd.R_drewN | apply Kd.R_drew)); exact HO_15.out) hb); have n2_ := Aside0.mk (below_step (by repeat (first | (with_reducible first | exact HB.out | apply below_alloc | apply pw_below_drewN | apply below_drew1) | exact HB.out)) hb); clear HO_7; clear HO_15; clear HB; have HO_7 := n0_; have HO_15 := n1_; have HB := n2_; clear n0_ n1_ n2_; (try clear hb); (try clear hb2); (try clear hk); (try clear hi)) | ((with_reducible refine gate_callee (f := 84) rfl ?_); refine goesL_ (some 125) rfl rfl Try.func84 (by kernel_rfl) rfl #[.string t901, .slice Ao45 t902.length co45] rfl (by (try simp only [List.map_toArray, List.map_cons, List.map_nil]); first | done | rfl | (simp only [List.length_drop, List.length_take]; rfl)) ?_; (with_reducible refine (impl_PublicFrom.calls kj10 t901 _ _ t902 t926 t927 _ ?side1 ?side2 A42.out).mono ?_); (case side1 => repeat (first | exact (Kd.R_reads' HO_7.out).2.2 | (with_reducible refine Kd.C_alloc ?_ _) | (with_reducible refine Kd.C_drewN ?_ _) | (with_reducible refine Kd.C_drew ?_))); (case side2 => exact (Kd.R_reads' HO_7.out).2.1); rintro e w47 ⟨rfl, hb⟩; refine ⟨_, rfl, ?_⟩; have n0_ := Aside0.mk (Kd.R_below (by (with_reducible repeat (first | apply Kd.R_alloc | apply Kd.R_drewN | apply Kd.R_drew)); exact HO_7.out) hb); have n1_ := Aside0.mk (Kd.R_below (by (with_reducible repeat (first | apply Kd.R_alloc | apply Kd.R_drewN | apply Kd.R_drew)); exact HO_15.out) hb); have n2_ := Aside0.mk (below_step (by repeat (first | (with_reducible first | exact HB.out | apply below_alloc | apply pw_below_drewN | apply below_drew1) | exact HB.out)) hb); clear HO_7; clear HO_15; clear HB; have HO_7 := n0_; have HO_15 := n1_; have HB := n2_; clear n0_ n1_ n2_; (try clear hb); (try clear hb2); (try clear hk); (try clear hi)) | ((with_reducible refine gate_callee (f := 21) rfl ?_); refine goesL_ (some 130) rfl rfl Try.func21 (by kernel_rfl) rfl #[.string t901] rfl (by (try simp only [List.map_toArray, List.map_cons, List.map_nil]); first | done | rfl | (simp only [List.length_drop, List.length_take]; rfl)) ?_; (with_reducible refine (impl_DigitsOf.calls kj10 t901 t928 t929 _ A43.out).mono ?_); rintro e w48 ⟨v930, rfl, ho0, hb⟩; refine ⟨_, rfl, ?_⟩; have n0_ := Aside0.mk (Kd.R_below (by (with_reducible repeat (first | apply Kd.R_alloc | apply Kd.R_drewN | apply Kd.R_drew)); exact HO_7.out) hb); have n1_ := Aside0.mk (Kd.R_below (by (with_reducible repeat (first | apply Kd.R_alloc | apply Kd.R_drewN | apply Kd.R_drew)); exact HO_15.out) hb); have n2_ := Aside0.mk (Kd.R_lower ho0 (below_size (by repeat (first | (with_reducible first | exact HB.out | apply below_alloc | apply pw_below_drewN | apply below_drew1) | exact HB.out)))); have n3_ := Aside0.mk (below_step (by repeat (first | (with_reducible first | exact HB.out | apply below_alloc | apply pw_below_drewN | apply below_drew1) | exact HB.out)) hb); clear HO_7; clear HO_15; clear HB; have HO_7 := n0_; have HO_15 := n1_; have HO931 := n2_; have HB := n3_; clear n0_ n1_ n2_ n3_; (try clear hb); (try clear hb2); (try clear hk); (try clear hi); (try clear ho0)))
       (try simp only [Act.put, List.setIfInBounds_toArray, List.set_cons_zero, List.set_cons_succ])
       go_cut [166] (fun v166 wc => ∃ (kq : Nat) (x166_43 : Bool), v166 = .bool x166_43 ∧ Aside0 (laws_FnOnce.j1 kq l1 t902 t914 t928 x166_43 = some r) ∧ Aside0 (kq ≤ kj10) ∧ Aside0 (Kd.R Kd.string 9 wc w.heap.size (fun k_ => some k_ ≠ (v916 : Value).ownBlock) (.slice Ao45 t902.length co45) t902) ∧ Aside0 (Kd.R Kd.string 9 wc w.heap.size (fun k_ => some k_ ≠ ((.slice Ao45 t902.length co45) : Value).ownBlock) v916 t914) ∧ Aside0 (Kd.R (Kd.int .i64) 3 wc w.heap.size (fun _ => True) v930 t928) ∧ Aside0 (Below w.heap.size w wc))
       case first =>
        have H := HC44.out
        clear HC44
        by_cases c49 : t911 = true
        ·subst c49
         have H1 : (if t925 = true then (if t924 = true then (if t927 = true then (if t926.toList = t910.toList then (if t929 = true then (if t915 = true then (laws_FnOnce.j1 kj10 l1 t902 t914 t928 ((t914.length : Int) != (t902.length : Int))) else (laws_FnOnce.j1 kj10 l1 t902 t914 t928 true)) else (laws_FnOnce.j1 kj10 l1 t902 t914 t928 true)) else (laws_FnOnce.j1 kj10 l1 t902 t914 t928 true)) else (laws_FnOnce.j1 kj10 l1 t902 t914 t928 true)) else (laws_FnOnce.j1 kj10 l1 t902 t914 t928 true)) else (laws_FnOnce.j1 kj10 l1 t902 t914 t928 true)) = some r := by rw [if_pos rfl] at H; exact H
         clear H
         have H := H1
         clear H1
         by_cases c50 : t925 = true
         ·subst c50
          have H1 : (if t924 = true then (if t927 = true then (if t926.toList = t910.toList then (if t929 = true then (if t915 = true then (laws_FnOnce.j1 kj10 l1 t902 t914 t928 ((t914.length : Int) != (t902.length : Int))) else (laws_FnOnce.j1 kj10 l1 t902 t914 t928 true)) else (laws_FnOnce.j1 kj10 l1 t902 t914 t928 true)) else (laws_FnOnce.j1 kj10 l1 t902 t914 t928 true)) else (laws_FnOnce.j1 kj10 l1 t902 t914 t928 true)) else (laws_FnOnce.j1 kj10 l1 t902 t914 t928 true)) = some r := by rw [if_pos rfl] at H; exact H
          clear H
          have H := H1
          clear H1
          by_cases c51 : t924 = true
          ·subst c51
           have H1 : (if t927 = true then (if t926.toList = t910.toList then (if t929 = true then (if t915 = true then (laws_FnOnce.j1 kj10 l1 t902 t914 t928 ((t914.length : Int) != (t902.length : Int))) else (laws_FnOnce.j1 kj10 l1 t902 t914 t928 true)) else (laws_FnOnce.j1 kj10 l1 t902 t914 t928 true)) else (laws_FnOnce.j1 kj10 l1 t902 t914 t928 true)) else (laws_FnOnce.j1 kj10 l1 t902 t914 t928 true)) = some r := by rw [if_pos rfl] at H; exact H
           clear H
           have H := H1
           clear H1
           by_cases c52 : t927 = true
           ·subst c52
            have H1 : (if t926.toList = t910.toList then (if t929 = true then (if t915 = true then (laws_FnOnce.j1 kj10 l1 t902 t914 t928 ((t914.length : Int) != (t902.length : Int))) else (laws_FnOnce.j1 kj10 l1 t902 t914 t928 true)) else (laws_FnOnce.j1 kj10 l1 t902 t914 t928 true)) else (laws_FnOnce.j1 kj10 l1 t902 t914 t928 true)) = some r := by rw [if_pos rfl] at H; exact H
            clear H
            have H := H1
            clear H1
            by_cases c53 : t926.toList = t910.toList
            ·rw [if_pos c53] at H
             have c53b0 : (t926.toList == t910.toList) = true := beq_iff_eq.mpr c53
             have c53b1 : (t926.toList != t910.toList) = false := bne_eq_false_iff_eq.mpr c53
             clear c53
             (first | rw [c53b0] | (simp only [i64_w, i32_w]; rw [c53b0]) | skip)
             by_cases c54 : t929 = true
             ·subst c54
              have H1 : (if t915 = true then (laws_FnOnce.j1 kj10 l1 t902 t914 t928 ((t914.length : Int) != (t902.length : Int))) else (laws_FnOnce.j1 kj10 l1 t902 t914 t928 true)) = some r := by rw [if_pos rfl] at H; exact H
              clear H
              have H := H1
              clear H1
              by_cases c55 : t915 = true
              ·subst c55
               have H1 : (laws_FnOnce.j1 kj10 l1 t902 t914 t928 ((t914.length : Int) != (t902.length : Int))) = some r := by rw [if_pos rfl] at H; exact H
               clear H
               have H := H1
               clear H1
               as_aux_lemma =>
                have H' := Aside0.mk H
                clear H
                obtain ⟨Ao56, co56, eo56⟩ := Kd.R_slice HO_15.out
                subst eo56
                go_wp2
                go_meet
                case rel => exact ⟨_, (((t914.length : Int) != (t902.length : Int))), (by first | rfl | (simp; done) | (simp [*]; done) | (simp [bne]; done)), H', ⟨by have := HJ10.out; first | omega | exact Nat.le_refl _⟩, ⟨by (with_reducible repeat (first | apply Kd.R_alloc | apply Kd.R_drewN | apply Kd.R_drew)); exact HO_7.out⟩, ⟨by (with_reducible repeat (first | apply Kd.R_alloc | apply Kd.R_drewN | apply Kd.R_drew)); exact HO_15.out⟩, ⟨by (with_reducible repeat (first | apply Kd.R_alloc | apply Kd.R_drewN | apply Kd.R_drew)); exact HO931.out⟩, ⟨by repeat (first | (with_reducible first | exact HB.out | apply below_alloc | apply pw_below_drewN | apply below_drew1) | exact HB.out)⟩⟩
              ·replace c55 := Bool.eq_false_iff.mpr c55
               subst c55
               have H1 : (laws_FnOnce.j1 kj10 l1 t902 t914 t928 true) = some r := by rw [if_neg (show ¬ (false = true) by decide)] at H; exact H
               clear H
               have H := H1
               clear H1
               as_aux_lemma =>
                have H' := Aside0.mk H
                clear H
                go_wp2
                go_meet
                case rel => exact ⟨_, (true), (by first | rfl | (simp; done) | (simp [*]; done) | (simp [bne]; done)), H', ⟨by have := HJ10.out; first | omega | exact Nat.le_refl _⟩, ⟨by (with_reducible repeat (first | apply Kd.R_alloc | apply Kd.R_drewN | apply Kd.R_drew)); exact HO_7.out⟩, ⟨by (with_reducible repeat (first | apply Kd.R_alloc | apply Kd.R_drewN | apply Kd.R_drew)); exact HO_15.out⟩, ⟨by (with_reducible repeat (first | apply Kd.R_alloc | apply Kd.R_drewN | apply Kd.R_drew)); exact HO931.out⟩, ⟨by repeat (first | (with_reducible first | exact HB.out | apply below_alloc | apply pw_below_drewN | apply below_drew1) | exact HB.out)⟩⟩
             ·replace c54 := Bool.eq_false_iff.mpr c54
              subst c54
              have H1 : (laws_FnOnce.j1 kj10 l1 t902 t914 t928 true) = some r := by rw [if_neg (show ¬ (false = true) by decide)] at H; exact H
              clear H
              have H := H1
              clear H1
              as_aux_lemma =>
               have H' := Aside0.mk H
               clear H
               go_wp2
               go_meet
               case rel => exact ⟨_, (true), (by first | rfl | (simp; done) | (simp [*]; done) | (simp [bne]; done)), H', ⟨by have := HJ10.out; first | omega | exact Nat.le_refl _⟩, ⟨by (with_reducible repeat (first | apply Kd.R_alloc | apply Kd.R_drewN | apply Kd.R_drew)); exact HO_7.out⟩, ⟨by (with_reducible repeat (first | apply Kd.R_alloc | apply Kd.R_drewN | apply Kd.R_drew)); exact HO_15.out⟩, ⟨by (with_reducible repeat (first | apply Kd.R_alloc | apply Kd.R_drewN | apply Kd.R_drew)); exact HO931.out⟩, ⟨by repeat (first | (with_reducible first | exact HB.out | apply below_alloc | apply pw_below_drewN | apply below_drew1) | exact HB.out)⟩⟩
            ·rw [if_neg c53] at H
             have c53b0 : (t926.toList == t910.toList) = false := beq_eq_false_iff_ne.mpr c53
             have c53b1 : (t926.toList != t910.toList) = true := bne_iff_ne.mpr c53
             (first | rw [c53b0] | (simp only [i64_w, i32_w]; rw [c53b0]) | skip)
             as_aux_lemma =>
              have H' := Aside0.mk H
              clear H
              go_wp2
              go_meet
              case rel => exact ⟨_, (true), (by first | rfl | (simp; done) | (simp [*]; done) | (simp [bne]; done)), H', ⟨by have := HJ10.out; first | omega | exact Nat.le_refl _⟩, ⟨by (with_reducible repeat (first | apply Kd.R_alloc | apply Kd.R_drewN | apply Kd.R_drew)); exact HO_7.out⟩, ⟨by (with_reducible repeat (first | apply Kd.R_alloc | apply Kd.R_drewN | apply Kd.R_drew)); exact HO_15.out⟩, ⟨by (with_reducible repeat (first | apply Kd.R_alloc | apply Kd.R_drewN | apply Kd.R_drew)); exact HO931.out⟩, ⟨by repeat (first | (with_reducible first | exact HB.out | apply below_alloc | apply pw_below_drewN | apply below_drew1) | exact HB.out)⟩⟩
           ·replace c52 := Bool.eq_false_iff.mpr c52
            subst c52
            have H1 : (laws_FnOnce.j1 kj10 l1 t902 t914 t928 true) = some r := by rw [if_neg (show ¬ (false = true) by decide)] at H; exact H
            clear H
            have H := H1
            clear H1
            as_aux_lemma =>
             have H' := Aside0.mk H
             clear H
             go_wp2
             go_meet
             case rel => exact ⟨_, (true), (by first | rfl | (simp; done) | (simp [*]; done) | (simp [bne]; done)), H', ⟨by have := HJ10.out; first | omega | exact Nat.le_refl _⟩, ⟨by (with_reducible repeat (first | apply Kd.R_alloc | apply Kd.R_drewN | apply Kd.R_drew)); exact HO_7.out⟩, ⟨by (with_reducible repeat (first | apply Kd.R_alloc | apply Kd.R_drewN | apply Kd.R_drew)); exact HO_15.out⟩, ⟨by (with_reducible repeat (first | apply Kd.R_alloc | apply Kd.R_drewN | apply Kd.R_drew)); exact HO931.out⟩, ⟨by repeat (first | (with_reducible first | exact HB.out | apply below_alloc | apply pw_below_drewN | apply below_drew1) | exact HB.out)⟩⟩
          ·replace c51 := Bool.eq_false_iff.mpr c51
           subst c51
           have H1 : (laws_FnOnce.j1 kj10 l1 t902 t914 t928 true) = some r := by rw [if_neg (show ¬ (false = true) by decide)] at H; exact H
           clear H
           have H := H1
           clear H1
           as_aux_lemma =>
            have H' := Aside0.mk H
            clear H
            go_wp2
            go_meet
            case rel => exact ⟨_, (true), (by first | rfl | (simp; done) | (simp [*]; done) | (simp [bne]; done)), H', ⟨by have := HJ10.out; first | omega | exact Nat.le_refl _⟩, ⟨by (with_reducible repeat (first | apply Kd.R_alloc | apply Kd.R_drewN | apply Kd.R_drew)); exact HO_7.out⟩, ⟨by (with_reducible repeat (first | apply Kd.R_alloc | apply Kd.R_drewN | apply Kd.R_drew)); exact HO_15.out⟩, ⟨by (with_reducible repeat (first | apply Kd.R_alloc | apply Kd.R_drewN | apply Kd.R_drew)); exact HO931.out⟩, ⟨by repeat (first | (with_reducible first | exact HB.out | apply below_alloc | apply pw_below_drewN | apply below_drew1) | exact HB.out)⟩⟩
         ·replace c50 := Bool.eq_false_iff.mpr c50
          subst c50
          have H1 : (laws_FnOnce.j1 kj10 l1 t902 t914 t928 true) = some r := by rw [if_neg (show ¬ (false = true) by decide)] at H; exact H
          clear H
          have H := H1
          clear H1
          as_aux_lemma =>
           have H' := Aside0.mk H
           clear H
           go_wp2
           go_meet
           case rel => exact ⟨_, (true), (by first | rfl | (simp; done) | (simp [*]; done) | (simp [bne]; done)), H', ⟨by have := HJ10.out; first | omega | exact Nat.le_refl _⟩, ⟨by (with_reducible repeat (first | apply Kd.R_alloc | apply Kd.R_drewN | apply Kd.R_drew)); exact HO_7.out⟩, ⟨by (with_reducible repeat (first | apply Kd.R_alloc | apply Kd.R_drewN | apply Kd.R_drew)); exact HO_15.out⟩, ⟨by (with_reducible repeat (first | apply Kd.R_alloc | apply Kd.R_drewN | apply Kd.R_drew)); exact HO931.out⟩, ⟨by repeat (first | (with_reducible first | exact HB.out | apply below_alloc | apply pw_below_drewN | apply below_drew1) | exact HB.out)⟩⟩
        ·replace c49 := Bool.eq_false_iff.mpr c49
         subst c49
         have H1 : (laws_FnOnce.j1 kj10 l1 t902 t914 t928 true) = some r := by rw [if_neg (show ¬ (false = true) by decide)] at H; exact H
         clear H
         have H := H1
         clear H1
         as_aux_lemma =>
          have H' := Aside0.mk H
          clear H
          go_wp2
          go_meet
          case rel => exact ⟨_, (true), (by first | rfl | (simp; done) | (simp [*]; done) | (simp [bne]; done)), H', ⟨by have := HJ10.out; first | omega | exact Nat.le_refl _⟩, ⟨by (with_reducible repeat (first | apply Kd.R_alloc | apply Kd.R_drewN | apply Kd.R_drew)); exact HO_7.out⟩, ⟨by (with_reducible repeat (first | apply Kd.R_alloc | apply Kd.R_drewN | apply Kd.R_drew)); exact HO_15.out⟩, ⟨by (with_reducible repeat (first | apply Kd.R_alloc | apply Kd.R_drewN | apply Kd.R_drew)); exact HO931.out⟩, ⟨by repeat (first | (with_reducible first | exact HB.out | apply below_alloc | apply pw_below_drewN | apply below_drew1) | exact HB.out)⟩⟩
       case rest =>
        clear HC44
        try clear c1
        try clear c2
        try clear p2
        try clear c3
        try clear c3b0
        try clear c4
        try clear c5
        try clear p6
        try clear c7
        try clear c8
        try clear c14
        try clear c19
        try clear c19b0
        try clear c19b1
        try clear c19b2
        try clear c21
        try clear c22
        try clear c22b0
        try clear c22b1
        try clear c22b2
        try clear c25
        try clear c25b0
        try clear c25b1
        try clear c26
        try clear c26b0
        try clear c26b1
        try clear c26b2
        try clear c38
        try clear c40
        try clear c49
        try clear c50
        try clear c51
        try clear c52
        try clear c53
        try clear c53b0
        try clear c53b1
        try clear c54
        try clear c55
        try clear p2
        try clear p6
        obtain ⟨kq, x166_43, rfl, HA, HJ43, HO_7, HO_15, HO_23, HB⟩ := hcut
        cases kq with
        | zero => exact absurd HA.out (by simp [laws_FnOnce.j1])
        | succ kj43 =>
         have H := HA.out
         clear HA
         simp only [laws_FnOnce.j1] at H
         by_cases c57 : x166_43 = true
         ·subst c57
          have H1 : (some false) = some r := by rw [if_pos rfl] at H; exact H
          clear H
          have H := H1
          clear H1
          as_aux_lemma =>
           obtain rfl := Option.some.inj H
           go_wp2
           go_ret
           exact ⟨by first | rfl | (simp [errW_none, errW_some] <;> rfl) | (simp [*, errW_none, errW_some] <;> rfl), by repeat (first | (with_reducible first | exact HB.out | apply below_alloc | apply pw_below_drewN | apply below_drew1) | exact HB.out)⟩
         ·replace c57 := Bool.eq_false_iff.mpr c57
          subst c57
          have H1 : (laws_FnOnce.l0 kj43 l1 t902 t914 t928 (t902.length : Int) 0) = some r := by rw [if_neg (show ¬ (false = true) by decide)] at H; exact H
          clear H
          have H := H1
          clear H1
          have H' := Aside0.mk H
          clear H
          go_wp2
          go_loopg [169] kj43 (fun kq v169 w' => ∃ (x169_3 : Int), v169 = .int .i64 x169_3 ∧ Aside0 (laws_FnOnce.l0 kq l1 t902 t914 t928 (t902.length : Int) x169_3 = some r) ∧ Aside0 (kq ≤ kj43) ∧ Aside0 (Kd.R Kd.string 9 w' w.heap.size (fun k_ => some k_ ≠ (v916 : Value).ownBlock) (.slice Ao45 t902.length co45) t902) ∧ Aside0 (Kd.R Kd.string 9 w' w.heap.size (fun k_ => some k_ ≠ ((.slice Ao45 t902.length co45) : Value).ownBlock) v916 t914) ∧ Aside0 (Kd.R (Kd.int .i64) 3 w' w.heap.size (fun _ => True) v930 t928) ∧ Aside0 (Below w.heap.size w w'))
          case atStart => exact ⟨(0), (by first | rfl | (simp; done) | (simp [*]; done) | (simp [bne]; done)), H', ⟨Nat.le_refl _⟩, ⟨by (with_reducible repeat (first | apply Kd.R_alloc | apply Kd.R_drewN | apply Kd.R_drew)); exact HO_7.out⟩, ⟨by (with_reducible repeat (first | apply Kd.R_alloc | apply Kd.R_drewN | apply Kd.R_drew)); exact HO_15.out⟩, ⟨by (with_reducible repeat (first | apply Kd.R_alloc | apply Kd.R_drewN | apply Kd.R_drew)); exact HO_23.out⟩, ⟨by repeat (first | (with_reducible first | exact HB.out | apply below_alloc | apply pw_below_drewN | apply below_drew1) | exact HB.out)⟩⟩
          case round =>
           clear H'
           try clear c1
           try clear c2
           try clear p2
           try clear c3
           try clear c3b0
           try clear c4
           try clear c5
           try clear p6
           try clear c7
           try clear c8
           try clear c14
           try clear c19
           try clear c19b0
           try clear c19b1
           try clear c19b2
           try clear c21
           try clear c22
           try clear c22b0
           try clear c22b1
           try clear c22b2
           try clear c25
           try clear c25b0
           try clear c25b1
           try clear c26
           try clear c26b0
           try clear c26b1
           try clear c26b2
           try clear c38
           try clear c40
           try clear c49
           try clear c50
           try clear c51
           try clear c52
           try clear c53
           try clear c53b0
           try clear c53b1
           try clear c54
           try clear c55
           try clear c57
           try clear p2
           try clear p6
           obtain ⟨x169_3, rfl, HA, HK3, HO_7, HO_15, HO_23, HB⟩ := hrel
           cases gk with
           | zero => exact absurd HA.out (by simp [laws_FnOnce.l0])
           | succ k3 =>
            have H := HA.out
            clear HA
            simp only [laws_FnOnce.l0] at H
            by_cases c58 : x169_3 < (t902.length : Int)
            ·rw [if_pos c58] at H
             have c58b0 : decide (x169_3 < (t902.length : Int)) = true := decide_eq_true c58
             clear c58
             by_cases c59 : 0 ≤ x169_3
             ·rw [if_pos c59] at H
              have c59b0 : decide (0 ≤ x169_3) = true := decide_eq_true c59
              clear c59
              by_cases c60 : x169_3 < (t914.length : Int)
              ·rw [if_pos c60] at H
               have c60b0 : decide (x169_3 < (t914.length : Int)) = true := decide_eq_true c60
               clear c60
               by_cases c61 : x169_3 < (t928.length : Int)
               ·rw [if_pos c61] at H
                have c61b0 : decide (x169_3 < (t928.length : Int)) = true := decide_eq_true c61
                clear c61
                replace H := Option.bind_eq_some_iff.mp H
                obtain ⟨⟨t934, t935⟩, A620, H⟩ := H
                replace H : (if t935 = true then (if x169_3 < (t902.length : Int) then (if t934.toList = (rdOf ByteArray.empty t902 x169_3).toList then (laws_FnOnce.l0 k3 l1 t902 t914 t928 (t902.length : Int) (wrap64 (x169_3 + 1))) else (some false)) else (none)) else (some false)) = some r := H
                have A62 := Aside0.mk A620
                clear A620
                by_cases c63 : t935 = true
                ·subst c63
                 have H1 : (if x169_3 < (t902.length : Int) then (if t934.toList = (rdOf ByteArray.empty t902 x169_3).toList then (laws_FnOnce.l0 k3 l1 t902 t914 t928 (t902.length : Int) (wrap64 (x169_3 + 1))) else (some false)) else (none)) = some r := by rw [if_pos rfl] at H; exact H
                 clear H
                 have H := H1
                 clear H1
                 by_cases c64 : x169_3 < (t902.length : Int)
                 ·rw [if_pos c64] at H
                  have c64b0 : decide (x169_3 < (t902.length : Int)) = true := decide_eq_true c64
                  clear c64
                  by_cases c65 : t934.toList = (rdOf ByteArray.empty t902 x169_3).toList
                  ·rw [if_pos c65] at H
                   have c65b0 : (t934.toList == (rdOf ByteArray.empty t902 x169_3).toList) = true := beq_iff_eq.mpr c65
                   have c65b1 : (t934.toList != (rdOf ByteArray.empty t902 x169_3).toList) = false := bne_eq_false_iff_eq.mpr c65
                   clear c65
                   as_aux_lemma =>
                    have H' := Aside0.mk H
                    clear H
                    try go_wp2
                    have n0_ := Aside0.mk (Kd.R_drew HO_7.out)
                    have n1_ := Aside0.mk (Kd.R_drew HO_15.out)
                    have n2_ := Aside0.mk (Kd.R_drew HO_23.out)
                    have n3_ := Aside0.mk (below_drew1 HB.out)
                    clear HO_7
                    clear HO_15
                    clear HO_23
                    clear HB
                    have HO_7 := n0_
                    have HO_15 := n1_
                    have HO_23 := n2_
                    have HB := n3_
                    clear n0_ n1_ n2_ n3_
                    obtain ⟨Ao67, co67, eo67⟩ := Kd.R_slice HO_15.out
                    (first | subst eo67 | (injection eo67 with f1_ f2_ f3_; have f4_ := f1_.symm; have f5_ := f3_.symm; clear f1_ f2_ f3_; subst f4_; subst f5_))
                    have p932 : 0 ≤ (x169_3 : Int) := of_decide_eq_true (by first | (with_reducible assumption) | assumption)
                    have q932 : x169_3 < (t914.length : Int) := of_decide_eq_true (by first | (with_reducible assumption) | assumption)
                    obtain ⟨ad932, e932, hx932_0⟩ := Kd.at_string (Kd.R_reads' HO_15.out).2.2 x169_3 p932 q932
                    cases e932
                    replace p932 := eq_true p932
                    replace q932 := eq_true q932
                    obtain ⟨Ao68, co68, eo68⟩ := Kd.R_slice HO_23.out
                    (first | subst eo68 | (injection eo68 with f1_ f2_ f3_; have f4_ := f1_.symm; have f5_ := f3_.symm; clear f1_ f2_ f3_; subst f4_; subst f5_))
                    have p933 : 0 ≤ (x169_3 : Int) := of_decide_eq_true (by first | (with_reducible assumption) | assumption)
                    have q933 : x169_3 < (t928.length : Int) := of_decide_eq_true (by first | (with_reducible assumption) | assumption)
                    obtain ⟨ad933, e933, hx933_0⟩ := Kd.at_int (Kd.R_reads' HO_23.out).2.2 x169_3 p933 q933
                    cases e933
                    replace p933 := eq_true p933
                    replace q933 := eq_true q933
                    refine start_ (n := 14) (S := fun w' => w'.cell? (ad932.add (x169_3).toNat) = some (.string (rdOf ByteArray.empty t914 x169_3)) ∧ w'.cell? (ad933.add (x169_3).toNat) = some (.int .i64 (rd t928 x169_3))) (ds := []) #[false, false, false, false, false, false, false, false, false, false, false, false, false, false] (by kernel_rfl) rfl rfl ⟨hx932_0, hx933_0⟩ (fun hHeld => ?_); refine with_tabW laws_FnOnce.tab21 laws_FnOnce.bits21 (fun HT_ HW_ => ?_)
                    generalize wr.drew = w66 at HO_7 HO_15 HO_23 HB hx932_0 hx933_0 hHeld ⊢
                    refine pure_ (i := 0) (N := some 173) (v := ?_) (a' := ?_) #[true, false, false, false, false, false, false, false, false, false, false, false, false, false] rfl rfl (any_of HT_.out (by kernel_rfl)) (fun _ _ _ h => h) (Or.inl ⟨by rfl, ?_⟩) ?_ ?_
                    rotate_left
                    ·intro w'
                     go_simp
                     with_reducible rfl
                    rotate_left
                    ·simp only [Act.put, List.setIfInBounds_toArray, List.set_cons_zero, List.set_cons_succ, i64_w, i32_w]
                     rfl
                    refine pure_ (i := 1) (N := some 174) (v := ?_) (a' := ?_) #[true, true, false, false, false, false, false, false, false, false, false, false, false, false] rfl rfl (any_of HT_.out (by kernel_rfl)) (fun _ _ _ h => h) (Or.inl ⟨by rfl, ?_⟩) ?_ ?_
                    rotate_left
                    ·intro w'
                     go_simp
                     with_reducible rfl
                    rotate_left
                    ·simp only [Act.put, List.setIfInBounds_toArray, List.set_cons_zero, List.set_cons_succ, i64_w, i32_w]
                     rfl
                    refine pure_ (i := 2) (N := some 175) (v := ?_) (a' := ?_) #[true, true, true, false, false, false, false, false, false, false, false, false, false, false] rfl rfl (any_of HT_.out (by kernel_rfl)) (fun _ _ _ h => h) (Or.inl ⟨by rfl, ?_⟩) ?_ ?_
                    rotate_left
                    ·intro w'
                     go_simp
                     with_reducible rfl
                    rotate_left
                    ·simp only [Act.put, List.setIfInBounds_toArray, List.set_cons_zero, List.set_cons_succ, i64_w, i32_w]
                     rfl
                    refine pure_ (i := 4) (N := some 177) (v := ?_) (a' := ?_) #[true, true, true, false, true, false, false, false, false, false, false, false, false, false] rfl rfl (any_of HT_.out (by kernel_rfl)) (fun _ _ _ h => h) (Or.inl ⟨by rfl, ?_⟩) ?_ ?_
                    rotate_left
                    ·intro w'
                     go_simp
                     with_reducible rfl
                    rotate_left
                    ·simp only [Act.put, List.setIfInBounds_toArray, List.set_cons_zero, List.set_cons_succ, i64_w, i32_w]
                     rfl
                    refine pure_ (i := 5) (N := some 178) (v := ?_) (a' := ?_) #[true, true, true, false, true, true, false, false, false, false, false, false, false, false] rfl rfl (any_of HT_.out (by kernel_rfl)) (fun _ _ _ h => h) (Or.inl ⟨by rfl, ?_⟩) ?_ ?_
                    rotate_left
                    ·intro w'
                     go_simp
                     with_reducible rfl
                    rotate_left
                    ·simp only [Act.put, List.setIfInBounds_toArray, List.set_cons_zero, List.set_cons_succ, i64_w, i32_w]
                     rfl
                    refine pure_ (i := 6) (N := some 179) (v := ?_) (a' := ?_) #[true, true, true, false, true, true, true, false, false, false, false, false, false, false] rfl rfl (any_of HT_.out (by kernel_rfl)) (fun _ _ _ h => h) (Or.inl ⟨by rfl, ?_⟩) ?_ ?_
                    rotate_left
                    ·intro w'
                     go_simp
                     with_reducible rfl
                    rotate_left
                    ·simp only [Act.put, List.setIfInBounds_toArray, List.set_cons_zero, List.set_cons_succ, i64_w, i32_w]
                     rfl
                    refine take_ (i := 3) (N := some 176) (v := ?_) (a' := ?_) #[true, true, true, true, true, true, true, false, false, false, false, false, false, false] rfl rfl (take_ofW HT_.out HW_.out (by kernel_rfl)) (fun _ _ _ h => h) (Or.inl ⟨by rfl, ?_⟩) hHeld ?_ ?_
                    rotate_left
                    ·rintro w' ⟨s0, s1⟩
                     go_simp
                     with_reducible rfl
                    rotate_left
                    ·simp only [Act.put, List.setIfInBounds_toArray, List.set_cons_zero, List.set_cons_succ, i64_w, i32_w]
                     rfl
                    refine take_ (i := 7) (N := some 180) (v := ?_) (a' := ?_) #[true, true, true, true, true, true, true, true, false, false, false, false, false, false] rfl rfl (take_ofW HT_.out HW_.out (by kernel_rfl)) (fun _ _ _ h => h) (Or.inl ⟨by rfl, ?_⟩) hHeld ?_ ?_
                    rotate_left
                    ·rintro w' ⟨s0, s1⟩
                     go_simp
                     with_reducible rfl
                    rotate_left
                    ·simp only [Act.put, List.setIfInBounds_toArray, List.set_cons_zero, List.set_cons_succ, i64_w, i32_w]
                     rfl
                    refine one_ (i := 8) (N := some 181) #[true, true, true, true, true, true, true, true, true, false, false, false, false, false] rfl rfl (one_of HT_.out (by kernel_rfl)) (by decide) (fun K hK => ?_)
                    refine goes_ Try.func26 (by kernel_rfl) rfl #[.string (rdOf ByteArray.empty t914 x169_3), .int .i64 0, .int .i64 (rd t928 x169_3)] (by rfl) rfl rfl (by (try simp only [List.map_toArray, List.map_cons, List.map_nil]); first | done | rfl | (simp only [List.length_drop, List.length_take]; rfl)) ?_
                    with_reducible refine (impl_ChainOf.calls k3 (rdOf ByteArray.empty t914 x169_3) 0 (rd t928 x169_3) t934 true _ A62.out).mono ?_
                    rintro e w69 ⟨rfl, hb⟩
                    have HS0_ := (hb.cell (World.block_lt_of_cell? _ _ (hHeld.1))).trans (hHeld.1)
                    have HS1_ := (hb.cell (World.block_lt_of_cell? _ _ (hHeld.2))).trans (hHeld.2)
                    refine ⟨_, rfl, ?_⟩
                    have n0_ := Aside0.mk (Kd.R_below (by (with_reducible repeat (first | apply Kd.R_alloc | apply Kd.R_drewN | apply Kd.R_drew)); exact HO_7.out) hb)
                    have n1_ := Aside0.mk (Kd.R_below (by (with_reducible repeat (first | apply Kd.R_alloc | apply Kd.R_drewN | apply Kd.R_drew)); exact HO_15.out) hb)
                    have n2_ := Aside0.mk (Kd.R_below (by (with_reducible repeat (first | apply Kd.R_alloc | apply Kd.R_drewN | apply Kd.R_drew)); exact HO_23.out) hb)
                    have n3_ := Aside0.mk (below_step (by repeat (first | (with_reducible first | exact HB.out | apply below_alloc | apply pw_below_drewN | apply below_drew1) | exact HB.out)) hb)
                    clear HO_7
                    clear HO_15
                    clear HO_23
                    clear HB
                    have HO_7 := n0_
                    have HO_15 := n1_
                    have HO_23 := n2_
                    have HB := n3_
                    clear n0_ n1_ n2_ n3_
                    (try clear hb)
                    (try clear hb2)
                    (try clear hk)
                    (try clear hi)
                    refine hK.out _ _ ⟨HS0_, HS1_⟩ (fun hHeld => ?_)
                    clear hK K
                    refine norm_ (a' := ?_) ?_ ?_
                    rotate_left
                    ·show Act.put _ (some 181) _ = _
                     simp only [Act.put, List.setIfInBounds_toArray, List.set_cons_zero, List.set_cons_succ, i64_w, i32_w]
                     rfl
                    refine pure_ (i := 9) (N := some 172) (v := ?_) (a' := ?_) #[true, true, true, true, true, true, true, true, true, true, false, false, false, false] rfl rfl (any_of HT_.out (by kernel_rfl)) (fun _ _ _ h => h) (Or.inl ⟨by rfl, ?_⟩) ?_ ?_
                    rotate_left
                    ·intro w'
                     go_simp
                     with_reducible rfl
                    rotate_left
                    ·simp only [Act.put, List.setIfInBounds_toArray, List.set_cons_zero, List.set_cons_succ, i64_w, i32_w]
                     rfl
                    refine pure_ (i := 10) (N := some 182) (v := ?_) (a' := ?_) #[true, true, true, true, true, true, true, true, true, true, true, false, false, false] rfl rfl (any_of HT_.out (by kernel_rfl)) (fun _ _ _ h => h) (Or.inl ⟨by rfl, ?_⟩) ?_ ?_
                    rotate_left
                    ·intro w'
                     go_simp
                     with_reducible rfl
                    rotate_left
                    ·simp only [Act.put, List.setIfInBounds_toArray, List.set_cons_zero, List.set_cons_succ, i64_w, i32_w]
                     rfl
                    refine pure_ (i := 11) (N := some 183) (v := ?_) (a' := ?_) #[true, true, true, true, true, true, true, true, true, true, true, true, false, false] rfl rfl (any_of HT_.out (by kernel_rfl)) (fun _ _ _ h => h) (Or.inl ⟨by rfl, ?_⟩) ?_ ?_
                    rotate_left
                    ·intro w'
                     go_simp
                     with_reducible rfl
                    rotate_left
                    ·simp only [Act.put, List.setIfInBounds_toArray, List.set_cons_zero, List.set_cons_succ, i64_w, i32_w]
                     rfl
                    refine pure_ (i := 12) (N := some 26) (v := ?_) (a' := ?_) #[true, true, true, true, true, true, true, true, true, true, true, true, true, false] rfl rfl (any_of HT_.out (by kernel_rfl)) (fun _ _ _ h => h) (Or.inl ⟨by rfl, ?_⟩) ?_ ?_
                    rotate_left
                    ·intro w'
                     go_simp
                     with_reducible rfl
                    rotate_left
                    ·simp only [Act.put, List.setIfInBounds_toArray, List.set_cons_zero, List.set_cons_succ, i64_w, i32_w]
                     rfl
                    refine pure_ (i := 13) (N := some 27) (v := ?_) (a' := ?_) #[true, true, true, true, true, true, true, true, true, true, true, true, true, true] rfl rfl (any_of HT_.out (by kernel_rfl)) (fun _ _ _ h => h) (Or.inl ⟨by rfl, ?_⟩) ?_ ?_
                    rotate_left
                    ·intro w'
                     go_simp
                     with_reducible rfl
                    rotate_left
                    ·simp only [Act.put, List.setIfInBounds_toArray, List.set_cons_zero, List.set_cons_succ, i64_w, i32_w]
                     rfl
                    refine done_ (done_of HT_.out (by kernel_rfl)) ?_
                    have p936 : 0 ≤ (x169_3 : Int) := of_decide_eq_true (by first | (with_reducible assumption) | assumption)
                    have q936 : x169_3 < (t902.length : Int) := of_decide_eq_true (by first | (with_reducible assumption) | assumption)
                    obtain ⟨ad936, e936, hx936_0⟩ := Kd.at_string (Kd.R_reads' HO_7.out).2.2 x169_3 p936 q936
                    cases e936
                    replace p936 := eq_true p936
                    replace q936 := eq_true q936
                    try go_wp2
                    go_roundg k3
                    case measure => have := HJ10.out; have := HJ43.out; have := HK3.out; omega
                    case rel => exact ⟨(wrap64 (x169_3 + 1)), (by first | rfl | (simp; done) | (simp [*]; done) | (simp [bne]; done)), H', ⟨by have := HJ10.out; have := HJ43.out; have := HK3.out; omega⟩, ⟨by (with_reducible repeat (first | apply Kd.R_alloc | apply Kd.R_drewN | apply Kd.R_drew)); exact HO_7.out⟩, ⟨by (with_reducible repeat (first | apply Kd.R_alloc | apply Kd.R_drewN | apply Kd.R_drew)); exact HO_15.out⟩, ⟨by (with_reducible repeat (first | apply Kd.R_alloc | apply Kd.R_drewN | apply Kd.R_drew)); exact HO_23.out⟩, ⟨by repeat (first | (with_reducible first | exact HB.out | apply below_alloc | apply pw_below_drewN | apply below_drew1) | exact HB.out)⟩⟩
                  ·rw [if_neg c65] at H
                   have c65b0 : (t934.toList == (rdOf ByteArray.empty t902 x169_3).toList) = false := beq_eq_false_iff_ne.mpr c65
                   have c65b1 : (t934.toList != (rdOf ByteArray.empty t902 x169_3).toList) = true := bne_iff_ne.mpr c65
                   as_aux_lemma =>
                    obtain rfl := Option.some.inj H
                    try go_wp2
                    have n0_ := Aside0.mk (Kd.R_drew HO_7.out)
                    have n1_ := Aside0.mk (Kd.R_drew HO_15.out)
                    have n2_ := Aside0.mk (Kd.R_drew HO_23.out)
                    have n3_ := Aside0.mk (below_drew1 HB.out)
                    clear HO_7
                    clear HO_15
                    clear HO_23
                    clear HB
                    have HO_7 := n0_
                    have HO_15 := n1_
                    have HO_23 := n2_
                    have HB := n3_
                    clear n0_ n1_ n2_ n3_
                    obtain ⟨Ao71, co71, eo71⟩ := Kd.R_slice HO_15.out
                    (first | subst eo71 | (injection eo71 with f1_ f2_ f3_; have f4_ := f1_.symm; have f5_ := f3_.symm; clear f1_ f2_ f3_; subst f4_; subst f5_))
                    have p932 : 0 ≤ (x169_3 : Int) := of_decide_eq_true (by first | (with_reducible assumption) | assumption)
                    have q932 : x169_3 < (t914.length : Int) := of_decide_eq_true (by first | (with_reducible assumption) | assumption)
                    obtain ⟨ad932, e932, hx932_0⟩ := Kd.at_string (Kd.R_reads' HO_15.out).2.2 x169_3 p932 q932
                    cases e932
                    replace p932 := eq_true p932
                    replace q932 := eq_true q932
                    obtain ⟨Ao72, co72, eo72⟩ := Kd.R_slice HO_23.out
                    (first | subst eo72 | (injection eo72 with f1_ f2_ f3_; have f4_ := f1_.symm; have f5_ := f3_.symm; clear f1_ f2_ f3_; subst f4_; subst f5_))
                    have p933 : 0 ≤ (x169_3 : Int) := of_decide_eq_true (by first | (with_reducible assumption) | assumption)
                    have q933 : x169_3 < (t928.length : Int) := of_decide_eq_true (by first | (with_reducible assumption) | assumption)
                    obtain ⟨ad933, e933, hx933_0⟩ := Kd.at_int (Kd.R_reads' HO_23.out).2.2 x169_3 p933 q933
                    cases e933
                    replace p933 := eq_true p933
                    replace q933 := eq_true q933
                    refine start_ (n := 14) (S := fun w' => w'.cell? (ad932.add (x169_3).toNat) = some (.string (rdOf ByteArray.empty t914 x169_3)) ∧ w'.cell? (ad933.add (x169_3).toNat) = some (.int .i64 (rd t928 x169_3))) (ds := []) #[false, false, false, false, false, false, false, false, false, false, false, false, false, false] (by kernel_rfl) rfl rfl ⟨hx932_0, hx933_0⟩ (fun hHeld => ?_); refine with_tabW laws_FnOnce.tab21 laws_FnOnce.bits21 (fun HT_ HW_ => ?_)
                    generalize wr.drew = w70 at HO_7 HO_15 HO_23 HB hx932_0 hx933_0 hHeld ⊢
                    refine pure_ (i := 0) (N := some 173) (v := ?_) (a' := ?_) #[true, false, false, false, false, false, false, false, false, false, false, false, false, false] rfl rfl (any_of HT_.out (by kernel_rfl)) (fun _ _ _ h => h) (Or.inl ⟨by rfl, ?_⟩) ?_ ?_
                    rotate_left
                    ·intro w'
                     go_simp
                     with_reducible rfl
                    rotate_left
                    ·simp only [Act.put, List.setIfInBounds_toArray, List.set_cons_zero, List.set_cons_succ, i64_w, i32_w]
                     rfl
                    refine pure_ (i := 1) (N := some 174) (v := ?_) (a' := ?_) #[true, true, false, false, false, false, false, false, false, false, false, false, false, false] rfl rfl (any_of HT_.out (by kernel_rfl)) (fun _ _ _ h => h) (Or.inl ⟨by rfl, ?_⟩) ?_ ?_
                    rotate_left
                    ·intro w'
                     go_simp
                     with_reducible rfl
                    rotate_left
                    ·simp only [Act.put, List.setIfInBounds_toArray, List.set_cons_zero, List.set_cons_succ, i64_w, i32_w]
                     rfl
                    refine pure_ (i := 2) (N := some 175) (v := ?_) (a' := ?_) #[true, true, true, false, false, false, false, false, false, false, false, false, false, false] rfl rfl (any_of HT_.out (by kernel_rfl)) (fun _ _ _ h => h) (Or.inl ⟨by rfl, ?_⟩) ?_ ?_
                    rotate_left
                    ·intro w'
                     go_simp
                     with_reducible rfl
                    rotate_left
                    ·simp only [Act.put, List.setIfInBounds_toArray, List.set_cons_zero, List.set_cons_succ, i64_w, i32_w]
                     rfl
                    refine pure_ (i := 4) (N := some 177) (v := ?_) (a' := ?_) #[true, true, true, false, true, false, false, false, false, false, false, false, false, false] rfl rfl (any_of HT_.out (by kernel_rfl)) (fun _ _ _ h => h) (Or.inl ⟨by rfl, ?_⟩) ?_ ?_
                    rotate_left
                    ·intro w'
                     go_simp
                     with_reducible rfl
                    rotate_left
                    ·simp only [Act.put, List.setIfInBounds_toArray, List.set_cons_zero, List.set_cons_succ, i64_w, i32_w]
                     rfl
                    refine pure_ (i := 5) (N := some 178) (v := ?_) (a' := ?_) #[true, true, true, false, true, true, false, false, false, false, false, false, false, false] rfl rfl (any_of HT_.out (by kernel_rfl)) (fun _ _ _ h => h) (Or.inl ⟨by rfl, ?_⟩) ?_ ?_
                    rotate_left
                    ·intro w'
                     go_simp
                     with_reducible rfl
                    rotate_left
                    ·simp only [Act.put, List.setIfInBounds_toArray, List.set_cons_zero, List.set_cons_succ, i64_w, i32_w]
                     rfl
                    refine pure_ (i := 6) (N := some 179) (v := ?_) (a' := ?_) #[true, true, true, false, true, true, true, false, false, false, false, false, false, false] rfl rfl (any_of HT_.out (by kernel_rfl)) (fun _ _ _ h => h) (Or.inl ⟨by rfl, ?_⟩) ?_ ?_
                    rotate_left
                    ·intro w'
                     go_simp
                     with_reducible rfl
                    rotate_left
                    ·simp only [Act.put, List.setIfInBounds_toArray, List.set_cons_zero, List.set_cons_succ, i64_w, i32_w]
                     rfl
                    refine take_ (i := 3) (N := some 176) (v := ?_) (a' := ?_) #[true, true, true, true, true, true, true, false, false, false, false, false, false, false] rfl rfl (take_ofW HT_.out HW_.out (by kernel_rfl)) (fun _ _ _ h => h) (Or.inl ⟨by rfl, ?_⟩) hHeld ?_ ?_
                    rotate_left
                    ·rintro w' ⟨s0, s1⟩
                     go_simp
                     with_reducible rfl
                    rotate_left
                    ·simp only [Act.put, List.setIfInBounds_toArray, List.set_cons_zero, List.set_cons_succ, i64_w, i32_w]
                     rfl
                    refine take_ (i := 7) (N := some 180) (v := ?_) (a' := ?_) #[true, true, true, true, true, true, true, true, false, false, false, false, false, false] rfl rfl (take_ofW HT_.out HW_.out (by kernel_rfl)) (fun _ _ _ h => h) (Or.inl ⟨by rfl, ?_⟩) hHeld ?_ ?_
                    rotate_left
                    ·rintro w' ⟨s0, s1⟩
                     go_simp
                     with_reducible rfl
                    rotate_left
                    ·simp only [Act.put, List.setIfInBounds_toArray, List.set_cons_zero, List.set_cons_succ, i64_w, i32_w]
                     rfl
                    refine one_ (i := 8) (N := some 181) #[true, true, true, true, true, true, true, true, true, false, false, false, false, false] rfl rfl (one_of HT_.out (by kernel_rfl)) (by decide) (fun K hK => ?_)
                    refine goes_ Try.func26 (by kernel_rfl) rfl #[.string (rdOf ByteArray.empty t914 x169_3), .int .i64 0, .int .i64 (rd t928 x169_3)] (by rfl) rfl rfl (by (try simp only [List.map_toArray, List.map_cons, List.map_nil]); first | done | rfl | (simp only [List.length_drop, List.length_take]; rfl)) ?_
                    with_reducible refine (impl_ChainOf.calls k3 (rdOf ByteArray.empty t914 x169_3) 0 (rd t928 x169_3) t934 true _ A62.out).mono ?_
                    rintro e w73 ⟨rfl, hb⟩
                    have HS0_ := (hb.cell (World.block_lt_of_cell? _ _ (hHeld.1))).trans (hHeld.1)
                    have HS1_ := (hb.cell (World.block_lt_of_cell? _ _ (hHeld.2))).trans (hHeld.2)
                    refine ⟨_, rfl, ?_⟩
                    have n0_ := Aside0.mk (Kd.R_below (by (with_reducible repeat (first | apply Kd.R_alloc | apply Kd.R_drewN | apply Kd.R_drew)); exact HO_7.out) hb)
                    have n1_ := Aside0.mk (Kd.R_below (by (with_reducible repeat (first | apply Kd.R_alloc | apply Kd.R_drewN | apply Kd.R_drew)); exact HO_15.out) hb)
                    have n2_ := Aside0.mk (Kd.R_below (by (with_reducible repeat (first | apply Kd.R_alloc | apply Kd.R_drewN | apply Kd.R_drew)); exact HO_23.out) hb)
                    have n3_ := Aside0.mk (below_step (by repeat (first | (with_reducible first | exact HB.out | apply below_alloc | apply pw_below_drewN | apply below_drew1) | exact HB.out)) hb)
                    clear HO_7
                    clear HO_15
                    clear HO_23
                    clear HB
                    have HO_7 := n0_
                    have HO_15 := n1_
                    have HO_23 := n2_
                    have HB := n3_
                    clear n0_ n1_ n2_ n3_
                    (try clear hb)
                    (try clear hb2)
                    (try clear hk)
                    (try clear hi)
                    refine hK.out _ _ ⟨HS0_, HS1_⟩ (fun hHeld => ?_)
                    clear hK K
                    refine norm_ (a' := ?_) ?_ ?_
                    rotate_left
                    ·show Act.put _ (some 181) _ = _
                     simp only [Act.put, List.setIfInBounds_toArray, List.set_cons_zero, List.set_cons_succ, i64_w, i32_w]
                     rfl
                    refine pure_ (i := 9) (N := some 172) (v := ?_) (a' := ?_) #[true, true, true, true, true, true, true, true, true, true, false, false, false, false] rfl rfl (any_of HT_.out (by kernel_rfl)) (fun _ _ _ h => h) (Or.inl ⟨by rfl, ?_⟩) ?_ ?_
                    rotate_left
                    ·intro w'
                     go_simp
                     with_reducible rfl
                    rotate_left
                    ·simp only [Act.put, List.setIfInBounds_toArray, List.set_cons_zero, List.set_cons_succ, i64_w, i32_w]
                     rfl
                    refine pure_ (i := 10) (N := some 182) (v := ?_) (a' := ?_) #[true, true, true, true, true, true, true, true, true, true, true, false, false, false] rfl rfl (any_of HT_.out (by kernel_rfl)) (fun _ _ _ h => h) (Or.inl ⟨by rfl, ?_⟩) ?_ ?_
                    rotate_left
                    ·intro w'
                     go_simp
                     with_reducible rfl
                    rotate_left
                    ·simp only [Act.put, List.setIfInBounds_toArray, List.set_cons_zero, List.set_cons_succ, i64_w, i32_w]
                     rfl
                    refine pure_ (i := 11) (N := some 183) (v := ?_) (a' := ?_) #[true, true, true, true, true, true, true, true, true, true, true, true, false, false] rfl rfl (any_of HT_.out (by kernel_rfl)) (fun _ _ _ h => h) (Or.inl ⟨by rfl, ?_⟩) ?_ ?_
                    rotate_left
                    ·intro w'
                     go_simp
                     with_reducible rfl
                    rotate_left
                    ·simp only [Act.put, List.setIfInBounds_toArray, List.set_cons_zero, List.set_cons_succ, i64_w, i32_w]
                     rfl
                    refine pure_ (i := 12) (N := some 26) (v := ?_) (a' := ?_) #[true, true, true, true, true, true, true, true, true, true, true, true, true, false] rfl rfl (any_of HT_.out (by kernel_rfl)) (fun _ _ _ h => h) (Or.inl ⟨by rfl, ?_⟩) ?_ ?_
                    rotate_left
                    ·intro w'
                     go_simp
                     with_reducible rfl
                    rotate_left
                    ·simp only [Act.put, List.setIfInBounds_toArray, List.set_cons_zero, List.set_cons_succ, i64_w, i32_w]
                     rfl
                    refine pure_ (i := 13) (N := some 27) (v := ?_) (a' := ?_) #[true, true, true, true, true, true, true, true, true, true, true, true, true, true] rfl rfl (any_of HT_.out (by kernel_rfl)) (fun _ _ _ h => h) (Or.inl ⟨by rfl, ?_⟩) ?_ ?_
                    rotate_left
                    ·intro w'
                     go_simp
                     with_reducible rfl
                    rotate_left
                    ·simp only [Act.put, List.setIfInBounds_toArray, List.set_cons_zero, List.set_cons_succ, i64_w, i32_w]
                     rfl
                    refine done_ (done_of HT_.out (by kernel_rfl)) ?_
                    have p936 : 0 ≤ (x169_3 : Int) := of_decide_eq_true (by first | (with_reducible assumption) | assumption)
                    have q936 : x169_3 < (t902.length : Int) := of_decide_eq_true (by first | (with_reducible assumption) | assumption)
                    obtain ⟨ad936, e936, hx936_0⟩ := Kd.at_string (Kd.R_reads' HO_7.out).2.2 x169_3 p936 q936
                    cases e936
                    replace p936 := eq_true p936
                    replace q936 := eq_true q936
                    try go_wp2
                    go_ret
                    exact ⟨by first | rfl | (simp [errW_none, errW_some] <;> rfl) | (simp [*, errW_none, errW_some] <;> rfl), by repeat (first | (with_reducible first | exact HB.out | apply below_alloc | apply pw_below_drewN | apply below_drew1) | exact HB.out)⟩
                 ·rw [if_neg c64] at H
                  exact absurd H (by simp)
                ·replace c63 := Bool.eq_false_iff.mpr c63
                 subst c63
                 have H1 : (some false) = some r := by rw [if_neg (show ¬ (false = true) by decide)] at H; exact H
                 clear H
                 have H := H1
                 clear H1
                 as_aux_lemma =>
                  obtain rfl := Option.some.inj H
                  try go_wp2
                  have n0_ := Aside0.mk (Kd.R_drew HO_7.out)
                  have n1_ := Aside0.mk (Kd.R_drew HO_15.out)
                  have n2_ := Aside0.mk (Kd.R_drew HO_23.out)
                  have n3_ := Aside0.mk (below_drew1 HB.out)
                  clear HO_7
                  clear HO_15
                  clear HO_23
                  clear HB
                  have HO_7 := n0_
                  have HO_15 := n1_
                  have HO_23 := n2_
                  have HB := n3_
                  clear n0_ n1_ n2_ n3_
                  obtain ⟨Ao75, co75, eo75⟩ := Kd.R_slice HO_15.out
                  (first | subst eo75 | (injection eo75 with f1_ f2_ f3_; have f4_ := f1_.symm; have f5_ := f3_.symm; clear f1_ f2_ f3_; subst f4_; subst f5_))
                  have p932 : 0 ≤ (x169_3 : Int) := of_decide_eq_true (by first | (with_reducible assumption) | assumption)
                  have q932 : x169_3 < (t914.length : Int) := of_decide_eq_true (by first | (with_reducible assumption) | assumption)
                  obtain ⟨ad932, e932, hx932_0⟩ := Kd.at_string (Kd.R_reads' HO_15.out).2.2 x169_3 p932 q932
                  cases e932
                  replace p932 := eq_true p932
                  replace q932 := eq_true q932
                  obtain ⟨Ao76, co76, eo76⟩ := Kd.R_slice HO_23.out
                  (first | subst eo76 | (injection eo76 with f1_ f2_ f3_; have f4_ := f1_.symm; have f5_ := f3_.symm; clear f1_ f2_ f3_; subst f4_; subst f5_))
                  have p933 : 0 ≤ (x169_3 : Int) := of_decide_eq_true (by first | (with_reducible assumption) | assumption)
                  have q933 : x169_3 < (t928.length : Int) := of_decide_eq_true (by first | (with_reducible assumption) | assumption)
                  obtain ⟨ad933, e933, hx933_0⟩ := Kd.at_int (Kd.R_reads' HO_23.out).2.2 x169_3 p933 q933
                  cases e933
                  replace p933 := eq_true p933
                  replace q933 := eq_true q933
                  refine start_ (n := 14) (S := fun w' => w'.cell? (ad932.add (x169_3).toNat) = some (.string (rdOf ByteArray.empty t914 x169_3)) ∧ w'.cell? (ad933.add (x169_3).toNat) = some (.int .i64 (rd t928 x169_3))) (ds := []) #[false, false, false, false, false, false, false, false, false, false, false, false, false, false] (by kernel_rfl) rfl rfl ⟨hx932_0, hx933_0⟩ (fun hHeld => ?_); refine with_tabW laws_FnOnce.tab21 laws_FnOnce.bits21 (fun HT_ HW_ => ?_)
                  generalize wr.drew = w74 at HO_7 HO_15 HO_23 HB hx932_0 hx933_0 hHeld ⊢
                  refine pure_ (i := 0) (N := some 173) (v := ?_) (a' := ?_) #[true, false, false, false, false, false, false, false, false, false, false, false, false, false] rfl rfl (any_of HT_.out (by kernel_rfl)) (fun _ _ _ h => h) (Or.inl ⟨by rfl, ?_⟩) ?_ ?_
                  rotate_left
                  ·intro w'
                   go_simp
                   with_reducible rfl
                  rotate_left
                  ·simp only [Act.put, List.setIfInBounds_toArray, List.set_cons_zero, List.set_cons_succ, i64_w, i32_w]
                   rfl
                  refine pure_ (i := 1) (N := some 174) (v := ?_) (a' := ?_) #[true, true, false, false, false, false, false, false, false, false, false, false, false, false] rfl rfl (any_of HT_.out (by kernel_rfl)) (fun _ _ _ h => h) (Or.inl ⟨by rfl, ?_⟩) ?_ ?_
                  rotate_left
                  ·intro w'
                   go_simp
                   with_reducible rfl
                  rotate_left
                  ·simp only [Act.put, List.setIfInBounds_toArray, List.set_cons_zero, List.set_cons_succ, i64_w, i32_w]
                   rfl
                  refine pure_ (i := 2) (N := some 175) (v := ?_) (a' := ?_) #[true, true, true, false, false, false, false, false, false, false, false, false, false, false] rfl rfl (any_of HT_.out (by kernel_rfl)) (fun _ _ _ h => h) (Or.inl ⟨by rfl, ?_⟩) ?_ ?_
                  rotate_left
                  ·intro w'
                   go_simp
                   with_reducible rfl
                  rotate_left
                  ·simp only [Act.put, List.setIfInBounds_toArray, List.set_cons_zero, List.set_cons_succ, i64_w, i32_w]
                   rfl
                  refine pure_ (i := 4) (N := some 177) (v := ?_) (a' := ?_) #[true, true, true, false, true, false, false, false, false, false, false, false, false, false] rfl rfl (any_of HT_.out (by kernel_rfl)) (fun _ _ _ h => h) (Or.inl ⟨by rfl, ?_⟩) ?_ ?_
                  rotate_left
                  ·intro w'
                   go_simp
                   with_reducible rfl
                  rotate_left
                  ·simp only [Act.put, List.setIfInBounds_toArray, List.set_cons_zero, List.set_cons_succ, i64_w, i32_w]
                   rfl
                  refine pure_ (i := 5) (N := some 178) (v := ?_) (a' := ?_) #[true, true, true, false, true, true, false, false, false, false, false, false, false, false] rfl rfl (any_of HT_.out (by kernel_rfl)) (fun _ _ _ h => h) (Or.inl ⟨by rfl, ?_⟩) ?_ ?_
                  rotate_left
                  ·intro w'
                   go_simp
                   with_reducible rfl
                  rotate_left
                  ·simp only [Act.put, List.setIfInBounds_toArray, List.set_cons_zero, List.set_cons_succ, i64_w, i32_w]
                   rfl
                  refine pure_ (i := 6) (N := some 179) (v := ?_) (a' := ?_) #[true, true, true, false, true, true, true, false, false, false, false, false, false, false] rfl rfl (any_of HT_.out (by kernel_rfl)) (fun _ _ _ h => h) (Or.inl ⟨by rfl, ?_⟩) ?_ ?_
                  rotate_left
                  ·intro w'
                   go_simp
                   with_reducible rfl
                  rotate_left
                  ·simp only [Act.put, List.setIfInBounds_toArray, List.set_cons_zero, List.set_cons_succ, i64_w, i32_w]
                   rfl
                  refine take_ (i := 3) (N := some 176) (v := ?_) (a' := ?_) #[true, true, true, true, true, true, true, false, false, false, false, false, false, false] rfl rfl (take_ofW HT_.out HW_.out (by kernel_rfl)) (fun _ _ _ h => h) (Or.inl ⟨by rfl, ?_⟩) hHeld ?_ ?_
                  rotate_left
                  ·rintro w' ⟨s0, s1⟩
                   go_simp
                   with_reducible rfl
                  rotate_left
                  ·simp only [Act.put, List.setIfInBounds_toArray, List.set_cons_zero, List.set_cons_succ, i64_w, i32_w]
                   rfl
                  refine take_ (i := 7) (N := some 180) (v := ?_) (a' := ?_) #[true, true, true, true, true, true, true, true, false, false, false, false, false, false] rfl rfl (take_ofW HT_.out HW_.out (by kernel_rfl)) (fun _ _ _ h => h) (Or.inl ⟨by rfl, ?_⟩) hHeld ?_ ?_
                  rotate_left
                  ·rintro w' ⟨s0, s1⟩
                   go_simp
                   with_reducible rfl
                  rotate_left
                  ·simp only [Act.put, List.setIfInBounds_toArray, List.set_cons_zero, List.set_cons_succ, i64_w, i32_w]
                   rfl
                  refine one_ (i := 8) (N := some 181) #[true, true, true, true, true, true, true, true, true, false, false, false, false, false] rfl rfl (one_of HT_.out (by kernel_rfl)) (by decide) (fun K hK => ?_)
                  refine goes_ Try.func26 (by kernel_rfl) rfl #[.string (rdOf ByteArray.empty t914 x169_3), .int .i64 0, .int .i64 (rd t928 x169_3)] (by rfl) rfl rfl (by (try simp only [List.map_toArray, List.map_cons, List.map_nil]); first | done | rfl | (simp only [List.length_drop, List.length_take]; rfl)) ?_
                  with_reducible refine (impl_ChainOf.calls k3 (rdOf ByteArray.empty t914 x169_3) 0 (rd t928 x169_3) t934 false _ A62.out).mono ?_
                  rintro e w77 ⟨rfl, hb⟩
                  have HS0_ := (hb.cell (World.block_lt_of_cell? _ _ (hHeld.1))).trans (hHeld.1)
                  have HS1_ := (hb.cell (World.block_lt_of_cell? _ _ (hHeld.2))).trans (hHeld.2)
                  refine ⟨_, rfl, ?_⟩
                  have n0_ := Aside0.mk (Kd.R_below (by (with_reducible repeat (first | apply Kd.R_alloc | apply Kd.R_drewN | apply Kd.R_drew)); exact HO_7.out) hb)
                  have n1_ := Aside0.mk (Kd.R_below (by (with_reducible repeat (first | apply Kd.R_alloc | apply Kd.R_drewN | apply Kd.R_drew)); exact HO_15.out) hb)
                  have n2_ := Aside0.mk (Kd.R_below (by (with_reducible repeat (first | apply Kd.R_alloc | apply Kd.R_drewN | apply Kd.R_drew)); exact HO_23.out) hb)
                  have n3_ := Aside0.mk (below_step (by repeat (first | (with_reducible first | exact HB.out | apply below_alloc | apply pw_below_drewN | apply below_drew1) | exact HB.out)) hb)
                  clear HO_7
                  clear HO_15
                  clear HO_23
                  clear HB
                  have HO_7 := n0_
                  have HO_15 := n1_
                  have HO_23 := n2_
                  have HB := n3_
                  clear n0_ n1_ n2_ n3_
                  (try clear hb)
                  (try clear hb2)
                  (try clear hk)
                  (try clear hi)
                  refine hK.out _ _ ⟨HS0_, HS1_⟩ (fun hHeld => ?_)
                  clear hK K
                  refine norm_ (a' := ?_) ?_ ?_
                  rotate_left
                  ·show Act.put _ (some 181) _ = _
                   simp only [Act.put, List.setIfInBounds_toArray, List.set_cons_zero, List.set_cons_succ, i64_w, i32_w]
                   rfl
                  refine pure_ (i := 9) (N := some 172) (v := ?_) (a' := ?_) #[true, true, true, true, true, true, true, true, true, true, false, false, false, false] rfl rfl (any_of HT_.out (by kernel_rfl)) (fun _ _ _ h => h) (Or.inl ⟨by rfl, ?_⟩) ?_ ?_
                  rotate_left
                  ·intro w'
                   go_simp
                   with_reducible rfl
                  rotate_left
                  ·simp only [Act.put, List.setIfInBounds_toArray, List.set_cons_zero, List.set_cons_succ, i64_w, i32_w]
                   rfl
                  refine pure_ (i := 10) (N := some 182) (v := ?_) (a' := ?_) #[true, true, true, true, true, true, true, true, true, true, true, false, false, false] rfl rfl (any_of HT_.out (by kernel_rfl)) (fun _ _ _ h => h) (Or.inl ⟨by rfl, ?_⟩) ?_ ?_
                  rotate_left
                  ·intro w'
                   go_simp
                   with_reducible rfl
                  rotate_left
                  ·simp only [Act.put, List.setIfInBounds_toArray, List.set_cons_zero, List.set_cons_succ, i64_w, i32_w]
                   rfl
                  refine pure_ (i := 11) (N := some 183) (v := ?_) (a' := ?_) #[true, true, true, true, true, true, true, true, true, true, true, true, false, false] rfl rfl (any_of HT_.out (by kernel_rfl)) (fun _ _ _ h => h) (Or.inl ⟨by rfl, ?_⟩) ?_ ?_
                  rotate_left
                  ·intro w'
                   go_simp
                   with_reducible rfl
                  rotate_left
                  ·simp only [Act.put, List.setIfInBounds_toArray, List.set_cons_zero, List.set_cons_succ, i64_w, i32_w]
                   rfl
                  refine pure_ (i := 12) (N := some 26) (v := ?_) (a' := ?_) #[true, true, true, true, true, true, true, true, true, true, true, true, true, false] rfl rfl (any_of HT_.out (by kernel_rfl)) (fun _ _ _ h => h) (Or.inl ⟨by rfl, ?_⟩) ?_ ?_
                  rotate_left
                  ·intro w'
                   go_simp
                   with_reducible rfl
                  rotate_left
                  ·simp only [Act.put, List.setIfInBounds_toArray, List.set_cons_zero, List.set_cons_succ, i64_w, i32_w]
                   rfl
                  refine pure_ (i := 13) (N := some 27) (v := ?_) (a' := ?_) #[true, true, true, true, true, true, true, true, true, true, true, true, true, true] rfl rfl (any_of HT_.out (by kernel_rfl)) (fun _ _ _ h => h) (Or.inl ⟨by rfl, ?_⟩) ?_ ?_
                  rotate_left
                  ·intro w'
                   go_simp
                   with_reducible rfl
                  rotate_left
                  ·simp only [Act.put, List.setIfInBounds_toArray, List.set_cons_zero, List.set_cons_succ, i64_w, i32_w]
                   rfl
                  refine done_ (done_of HT_.out (by kernel_rfl)) ?_
                  try go_wp2
                  go_ret
                  exact ⟨by first | rfl | (simp [errW_none, errW_some] <;> rfl) | (simp [*, errW_none, errW_some] <;> rfl), by repeat (first | (with_reducible first | exact HB.out | apply below_alloc | apply pw_below_drewN | apply below_drew1) | exact HB.out)⟩
               ·rw [if_neg c61] at H
                exact absurd H (by simp)
              ·rw [if_neg c60] at H
               exact absurd H (by simp)
             ·rw [if_neg c59] at H
              exact absurd H (by simp)
            ·rw [if_neg c58] at H
             have c58b0 : decide (x169_3 < (t902.length : Int)) = false := decide_eq_false c58
             clear c58
             as_aux_lemma =>
              have H' := Aside0.mk H
              clear H
              go_wp2
              go_meet
              case rel => exact ⟨_, H', ⟨by have := HJ10.out; have := HJ43.out; have := HK3.out; first | omega | exact Nat.le_refl _⟩, ⟨by repeat (first | (with_reducible first | exact HB.out | apply below_alloc | apply pw_below_drewN | apply below_drew1) | exact HB.out)⟩⟩
      ·replace c40 := Bool.eq_false_iff.mpr c40
       subst c40
       have H1 : (laws_FnOnce.j3 kj10 l1) = some r := by rw [if_neg (show ¬ (false = true) by decide)] at H; exact H
       clear H
       have H := H1
       clear H1
       as_aux_lemma =>
        have H' := Aside0.mk H
        clear H
        go_wp2
        go_meet
        case rel => exact ⟨_, H', ⟨by have := HJ10.out; first | omega | exact Nat.le_refl _⟩, ⟨by repeat (first | (with_reducible first | exact HB.out | apply below_alloc | apply pw_below_drewN | apply below_drew1) | exact HB.out)⟩⟩
     case rest =>
      clear HC39
      try clear c2
      try clear p2
      try clear c4
      try clear c5
      try clear c6
      try clear p6
      try clear p9
      try clear q9
      try clear hx9
      try clear c26
      try clear c40
      try clear c58
      try clear c58b0
      try clear c59
      try clear c60
      try clear c60b0
      try clear c61
      try clear c61b0
      try clear c63
      try clear c64
      try clear c64b0
      try clear p64
      try clear c65
      try clear c65b0
      try clear c65b1
      try clear hx932_0
      try clear hx933_0
      try clear hx936_0
      try clear p932
      try clear p933
      try clear p936
      try clear q932
      try clear q933
      try clear q936
      obtain ⟨kq, HA, HJ38, HB⟩ := hcut
      cases kq with
      | zero => exact absurd HA.out (by simp [laws_FnOnce.j3])
      | succ kj38 =>
       have H := HA.out
       clear HA
       simp only [laws_FnOnce.j3] at H
       replace H := Option.bind_eq_some_iff.mp H
       obtain ⟨⟨t937, t938, t939⟩, A780, H⟩ := H
       replace H : ((impl_CheckOnce.f kj38 t937 t938 t939).bind fun bt942 => ((spec_CheckOnce.f kj38 t937 t938 t939).bind fun bt944 => ((spec_DrawPublicFrom.f kj38 l1).bind fun bt946 => ((impl_PublicFrom.f kj38 bt946.1 bt946.2).bind fun bt950 => ((spec_PublicFrom.f kj38 bt946.1 bt946.2).bind fun bt952 => (if (bt942.2 == bt944.2) = true then (if (bt942.1 == bt944.1) = true then (if (bt950.2 == bt952.2) = true then (some (bt950.1.toList == bt952.1.toList)) else (some false)) else (some false)) else (some false))))))) = some r := H
       have A78 := Aside0.mk A780
       clear A780
       replace H := Option.bind_eq_some_iff.mp H
       obtain ⟨⟨t942, t943⟩, A790, H⟩ := H
       replace H : ((spec_CheckOnce.f kj38 t937 t938 t939).bind fun bt944 => ((spec_DrawPublicFrom.f kj38 l1).bind fun bt946 => ((impl_PublicFrom.f kj38 bt946.1 bt946.2).bind fun bt950 => ((spec_PublicFrom.f kj38 bt946.1 bt946.2).bind fun bt952 => (if (t943 == bt944.2) = true then (if (t942 == bt944.1) = true then (if (bt950.2 == bt952.2) = true then (some (bt950.1.toList == bt952.1.toList)) else (some false)) else (some false)) else (some false)))))) = some r := H
       have A79 := Aside0.mk A790
       clear A790
       replace H := Option.bind_eq_some_iff.mp H
       obtain ⟨⟨t944, t945⟩, A800, H⟩ := H
       replace H : ((spec_DrawPublicFrom.f kj38 l1).bind fun bt946 => ((impl_PublicFrom.f kj38 bt946.1 bt946.2).bind fun bt950 => ((spec_PublicFrom.f kj38 bt946.1 bt946.2).bind fun bt952 => (if (t943 == t945) = true then (if (t942 == t944) = true then (if (bt950.2 == bt952.2) = true then (some (bt950.1.toList == bt952.1.toList)) else (some false)) else (some false)) else (some false))))) = some r := H
       have A80 := Aside0.mk A800
       clear A800
       replace H := Option.bind_eq_some_iff.mp H
       obtain ⟨⟨t946, t947⟩, A810, H⟩ := H
       replace H : ((impl_PublicFrom.f kj38 t946 t947).bind fun bt950 => ((spec_PublicFrom.f kj38 t946 t947).bind fun bt952 => (if (t943 == t945) = true then (if (t942 == t944) = true then (if (bt950.2 == bt952.2) = true then (some (bt950.1.toList == bt952.1.toList)) else (some false)) else (some false)) else (some false)))) = some r := H
       have A81 := Aside0.mk A810
       clear A810
       replace H := Option.bind_eq_some_iff.mp H
       obtain ⟨⟨t950, t951⟩, A820, H⟩ := H
       replace H : ((spec_PublicFrom.f kj38 t946 t947).bind fun bt952 => (if (t943 == t945) = true then (if (t942 == t944) = true then (if (t951 == bt952.2) = true then (some (t950.toList == bt952.1.toList)) else (some false)) else (some false)) else (some false))) = some r := H
       have A82 := Aside0.mk A820
       clear A820
       replace H := Option.bind_eq_some_iff.mp H
       obtain ⟨⟨t952, t953⟩, A830, H⟩ := H
       replace H : (if (t943 == t945) = true then (if (t942 == t944) = true then (if (t951 == t953) = true then (some (t950.toList == t952.toList)) else (some false)) else (some false)) else (some false)) = some r := H
       have A83 := Aside0.mk A830
       clear A830
       by_cases c84 : (t943 == t945) = true
       ·rw [if_pos c84] at H
        have c84b0 : (t943 == t945) = true := c84
        (try (have c84b1 : decide (t943 = t945) = true := by simpa using c84))
        (try (have c84b2 : (t943 == t945) = true := by simpa using c84))
        clear c84
        by_cases c85 : (t942 == t944) = true
        ·rw [if_pos c85] at H
         have c85b0 : (t942 == t944) = true := c85
         (try (have c85b1 : decide (t942 = t944) = true := by simpa using c85))
         (try (have c85b2 : (t942 == t944) = true := by simpa using c85))
         clear c85
         by_cases c86 : (t951 == t953) = true
         ·rw [if_pos c86] at H
          have c86b0 : (t951 == t953) = true := c86
          (try (have c86b1 : decide (t951 = t953) = true := by simpa using c86))
          (try (have c86b2 : (t951 == t953) = true := by simpa using c86))
          clear c86
          as_aux_lemma =>
           obtain rfl := Option.some.inj H
           go_wp2_with (first | ((with_reducible refine gate_callee (f := 85) rfl ?_); refine goesL_ (some 197) rfl rfl Try.func85 (by kernel_rfl) rfl #[.slice A1 l1.length c1] rfl (by (try simp only [List.map_toArray, List.map_cons, List.map_nil]); first | done | rfl | (simp only [List.length_drop, List.length_take]; rfl)) ?_; (with_reducible refine (spec_DrawCheckOnce.calls kj38 _ _ l1 t937 t938 t939 _ ?side1 ?side2 A78.out).mono ?_); (case side1 => repeat (first | exact (Kd.C_below HR1.out HB.out) | (with_reducible refine Kd.C_alloc ?_ _) | (with_reducible refine Kd.C_drewN ?_ _) | (with_reducible refine Kd.C_drew ?_))); (case side2 => exact HC1.out); rintro e w87 ⟨v940, rfl, ho0, hb⟩; refine ⟨_, rfl, ?_⟩; have n0_ := Aside0.mk (Kd.Q_lower ho0 (below_size (by repeat (first | (with_reducible first | exact HB.out | apply below_alloc | apply pw_below_drewN | apply below_drew1) | exact HB.out)))); have n1_ := Aside0.mk (below_step (by repeat (first | (with_reducible first | exact HB.out | apply below_alloc | apply pw_below_drewN | apply below_drew1) | exact HB.out)) hb); clear HB; have HO941 := n0_; have HB := n1_; clear n0_ n1_; (try clear hb); (try clear hb2); (try clear hk); (try clear hi); (try clear ho0); obtain ⟨Ao88, co88, eo88, _⟩ := Kd.Q_slice HO941.out; subst eo88) | ((with_reducible refine gate_callee (f := 83) rfl ?_); refine goesL_ (some 205) rfl rfl Try.func83 (by kernel_rfl) rfl #[.string t937, .string t938, .slice Ao88 t939.length co88] rfl (by (try simp only [List.map_toArray, List.map_cons, List.map_nil]); first | done | rfl | (simp only [List.length_drop, List.length_take]; rfl)) ?_; (with_reducible refine (impl_CheckOnce.calls kj38 t937 t938 _ _ t939 t942 t943 _ ?side1 ?side2 A79.out).mono ?_); (case side1 => repeat (first | exact (Kd.Q_reads' HO941.out).2.2 | (with_reducible refine Kd.C_alloc ?_ _) | (with_reducible refine Kd.C_drewN ?_ _) | (with_reducible refine Kd.C_drew ?_))); (case side2 => exact (Kd.Q_reads' HO941.out).2.1); rintro e w89 ⟨rfl, hb⟩; refine ⟨_, rfl, ?_⟩; have n0_ := Aside0.mk (Kd.Q_below (by (with_reducible repeat (first | apply Kd.Q_alloc | apply Kd.Q_drewN | apply Kd.Q_drew)); exact HO941.out) hb); have n1_ := Aside0.mk (below_step (by repeat (first | (with_reducible first | exact HB.out | apply below_alloc | apply pw_below_drewN | apply below_drew1) | exact HB.out)) hb); clear HO941; clear HB; have HO941 := n0_; have HB := n1_; clear n0_ n1_; (try clear hb); (try clear hb2); (try clear hk); (try clear hi)) | ((with_reducible refine gate_callee (f := 86) rfl ?_); refine goesL_ (some 212) rfl rfl Try.func86 (by kernel_rfl) rfl #[.string t937, .string t938, .slice Ao88 t939.length co88] rfl (by (try simp only [List.map_toArray, List.map_cons, List.map_nil]); first | done | rfl | (simp only [List.length_drop, List.length_take]; rfl)) ?_; (with_reducible refine (spec_CheckOnce.calls kj38 t937 t938 _ _ t939 t944 t945 _ ?side1 ?side2 A80.out).mono ?_); (case side1 => repeat (first | exact (Kd.Q_reads' HO941.out).2.2 | (with_reducible refine Kd.C_alloc ?_ _) | (with_reducible refine Kd.C_drewN ?_ _) | (with_reducible refine Kd.C_drew ?_))); (case side2 => exact (Kd.Q_reads' HO941.out).2.1); rintro e w90 ⟨rfl, hb⟩; refine ⟨_, rfl, ?_⟩; have n0_ := Aside0.mk (Kd.Q_below (by (with_reducible repeat (first | apply Kd.Q_alloc | apply Kd.Q_drewN | apply Kd.Q_drew)); exact HO941.out) hb); have n1_ := Aside0.mk (below_step (by repeat (first | (with_reducible first | exact HB.out | apply below_alloc | apply pw_below_drewN | apply below_drew1) | exact HB.out)) hb); clear HO941; clear HB; have HO941 := n0_; have HB := n1_; clear n0_ n1_; (try clear hb); (try clear hb2); (try clear hk); (try clear hi)) | ((with_reducible refine gate_callee (f := 87) rfl ?_); refine goesL_ (some 217) rfl rfl Try.func87 (by kernel_rfl) rfl #[.slice A1 l1.length c1] rfl (by (try simp only [List.map_toArray, List.map_cons, List.map_nil]); first | done | rfl | (simp only [List.length_drop, List.length_take]; rfl)) ?_; (with_reducible refine (spec_DrawPublicFrom.calls kj38 _ _ l1 t946 t947 _ ?side1 ?side2 A81.out).mono ?_); (case side1 => repeat (first | exact (Kd.C_below HR1.out HB.out) | (with_reducible refine Kd.C_alloc ?_ _) | (with_reducible refine Kd.C_drewN ?_ _) | (with_reducible refine Kd.C_drew ?_))); (case side2 => exact HC1.out); rintro e w91 ⟨v948, rfl, ho0, hb⟩; refine ⟨_, rfl, ?_⟩; have n0_ := Aside0.mk (Kd.Q_elder' (by (with_reducible repeat (first | apply Kd.Q_alloc | apply Kd.Q_drewN | apply Kd.Q_drew)); exact HO941.out) (Kd.Q_base ho0) hb); have n1_ := Aside0.mk (Kd.Q_lower (Kd.Q_new' ho0 (Kd.Q_lt (by (with_reducible repeat (first | apply Kd.Q_alloc | apply Kd.Q_drewN | apply Kd.Q_drew)); exact HO941.out))) (below_size (by repeat (first | (with_reducible first | exact HB.out | apply below_alloc | apply pw_below_drewN | apply below_drew1) | exact HB.out)))); have n2_ := Aside0.mk (below_step (by repeat (first | (with_reducible first | exact HB.out | apply below_alloc | apply pw_below_drewN | apply below_drew1) | exact HB.out)) hb); clear HO941; clear HB; have HO941 := n0_; have HO949 := n1_; have HB := n2_; clear n0_ n1_ n2_; (try clear hb); (try clear hb2); (try clear hk); (try clear hi); (try clear ho0); obtain ⟨Ao92, co92, eo92, _⟩ := Kd.Q_slice HO949.out; subst eo92) | ((with_reducible refine gate_callee (f := 84) rfl ?_); refine goesL_ (some 223) rfl rfl Try.func84 (by kernel_rfl) rfl #[.string t946, .slice Ao92 t947.length co92] rfl (by (try simp only [List.map_toArray, List.map_cons, List.map_nil]); first | done | rfl | (simp only [List.length_drop, List.length_take]; rfl)) ?_; (with_reducible refine (impl_PublicFrom.calls kj38 t946 _ _ t947 t950 t951 _ ?side1 ?side2 A82.out).mono ?_); (case side1 => repeat (first | exact (Kd.Q_reads' HO949.out).2.2 | (with_reducible refine Kd.C_alloc ?_ _) | (with_reducible refine Kd.C_drewN ?_ _) | (with_reducible refine Kd.C_drew ?_))); (case side2 => exact (Kd.Q_reads' HO949.out).2.1); rintro e w93 ⟨rfl, hb⟩; refine ⟨_, rfl, ?_⟩; have n0_ := Aside0.mk (Kd.Q_below (by (with_reducible repeat (first | apply Kd.Q_alloc | apply Kd.Q_drewN | apply Kd.Q_drew)); exact HO941.out) hb); have n1_ := Aside0.mk (Kd.Q_below (by (with_reducible repeat (first | apply Kd.Q_alloc | apply Kd.Q_drewN | apply Kd.Q_drew)); exact HO949.out) hb); have n2_ := Aside0.mk (below_step (by repeat (first | (with_reducible first | exact HB.out | apply below_alloc | apply pw_below_drewN | apply below_drew1) | exact HB.out)) hb); clear HO941; clear HO949; clear HB; have HO941 := n0_; have HO949 := n1_; have HB := n2_; clear n0_ n1_ n2_; (try clear hb); (try clear hb2); (try clear hk); (try clear hi)) | ((with_reducible refine gate_callee (f := 88) rfl ?_); refine goesL_ (some 229) rfl rfl Try.func88 (by kernel_rfl) rfl #[.string t946, .slice Ao92 t947.length co92] rfl (by (try simp only [List.map_toArray, List.map_cons, List.map_nil]); first | done | rfl | (simp only [List.length_drop, List.length_take]; rfl)) ?_; (with_reducible refine (spec_PublicFrom.calls kj38 t946 _ _ t947 t952 t953 _ ?side1 ?side2 A83.out).mono ?_); (case side1 => repeat (first | exact (Kd.Q_reads' HO949.out).2.2 | (with_reducible refine Kd.C_alloc ?_ _) | (with_reducible refine Kd.C_drewN ?_ _) | (with_reducible refine Kd.C_drew ?_))); (case side2 => exact (Kd.Q_reads' HO949.out).2.1); rintro e w94 ⟨rfl, hb⟩; refine ⟨_, rfl, ?_⟩; have n0_ := Aside0.mk (Kd.Q_below (by (with_reducible repeat (first | apply Kd.Q_alloc | apply Kd.Q_drewN | apply Kd.Q_drew)); exact HO941.out) hb); have n1_ := Aside0.mk (Kd.Q_below (by (with_reducible repeat (first | apply Kd.Q_alloc | apply Kd.Q_drewN | apply Kd.Q_drew)); exact HO949.out) hb); have n2_ := Aside0.mk (below_step (by repeat (first | (with_reducible first | exact HB.out | apply below_alloc | apply pw_below_drewN | apply below_drew1) | exact HB.out)) hb); clear HO941; clear HO949; clear HB; have HO941 := n0_; have HO949 := n1_; have HB := n2_; clear n0_ n1_ n2_; (try clear hb); (try clear hb2); (try clear hk); (try clear hi)))
           go_ret
           exact ⟨by first | rfl | (simp [errW_none, errW_some] <;> rfl) | (simp [*, errW_none, errW_some] <;> rfl), by repeat (first | (with_reducible first | exact HB.out | apply below_alloc | apply pw_below_drewN | apply below_drew1) | exact HB.out)⟩
         ·rw [if_neg c86] at H
          have c86b0 : (t951 == t953) = false := by simpa using c86
          (try (have c86b1 : decide (t951 = t953) = false := by simpa using c86))
          (try (have c86b2 : (t951 == t953) = false := by simpa using c86))
          (try (have c86b3 : ¬ (t951 = t953) := by simpa using c86))
          clear c86
          as_aux_lemma =>
           obtain rfl := Option.some.inj H
           go_wp2_with (first | ((with_reducible refine gate_callee (f := 85) rfl ?_); refine goesL_ (some 197) rfl rfl Try.func85 (by kernel_rfl) rfl #[.slice A1 l1.length c1] rfl (by (try simp only [List.map_toArray, List.map_cons, List.map_nil]); first | done | rfl | (simp only [List.length_drop, List.length_take]; rfl)) ?_; (with_reducible refine (spec_DrawCheckOnce.calls kj38 _ _ l1 t937 t938 t939 _ ?side1 ?side2 A78.out).mono ?_); (case side1 => repeat (first | exact (Kd.C_below HR1.out HB.out) | (with_reducible refine Kd.C_alloc ?_ _) | (with_reducible refine Kd.C_drewN ?_ _) | (with_reducible refine Kd.C_drew ?_))); (case side2 => exact HC1.out); rintro e w95 ⟨v940, rfl, ho0, hb⟩; refine ⟨_, rfl, ?_⟩; have n0_ := Aside0.mk (Kd.Q_lower ho0 (below_size (by repeat (first | (with_reducible first | exact HB.out | apply below_alloc | apply pw_below_drewN | apply below_drew1) | exact HB.out)))); have n1_ := Aside0.mk (below_step (by repeat (first | (with_reducible first | exact HB.out | apply below_alloc | apply pw_below_drewN | apply below_drew1) | exact HB.out)) hb); clear HB; have HO941 := n0_; have HB := n1_; clear n0_ n1_; (try clear hb); (try clear hb2); (try clear hk); (try clear hi); (try clear ho0); obtain ⟨Ao96, co96, eo96, _⟩ := Kd.Q_slice HO941.out; subst eo96) | ((with_reducible refine gate_callee (f := 83) rfl ?_); refine goesL_ (some 205) rfl rfl Try.func83 (by kernel_rfl) rfl #[.string t937, .string t938, .slice Ao96 t939.length co96] rfl (by (try simp only [List.map_toArray, List.map_cons, List.map_nil]); first | done | rfl | (simp only [List.length_drop, List.length_take]; rfl)) ?_; (with_reducible refine (impl_CheckOnce.calls kj38 t937 t938 _ _ t939 t942 t943 _ ?side1 ?side2 A79.out).mono ?_); (case side1 => repeat (first | exact (Kd.Q_reads' HO941.out).2.2 | (with_reducible refine Kd.C_alloc ?_ _) | (with_reducible refine Kd.C_drewN ?_ _) | (with_reducible refine Kd.C_drew ?_))); (case side2 => exact (Kd.Q_reads' HO941.out).2.1); rintro e w97 ⟨rfl, hb⟩; refine ⟨_, rfl, ?_⟩; have n0_ := Aside0.mk (Kd.Q_below (by (with_reducible repeat (first | apply Kd.Q_alloc | apply Kd.Q_drewN | apply Kd.Q_drew)); exact HO941.out) hb); have n1_ := Aside0.mk (below_step (by repeat (first | (with_reducible first | exact HB.out | apply below_alloc | apply pw_below_drewN | apply below_drew1) | exact HB.out)) hb); clear HO941; clear HB; have HO941 := n0_; have HB := n1_; clear n0_ n1_; (try clear hb); (try clear hb2); (try clear hk); (try clear hi)) | ((with_reducible refine gate_callee (f := 86) rfl ?_); refine goesL_ (some 212) rfl rfl Try.func86 (by kernel_rfl) rfl #[.string t937, .string t938, .slice Ao96 t939.length co96] rfl (by (try simp only [List.map_toArray, List.map_cons, List.map_nil]); first | done | rfl | (simp only [List.length_drop, List.length_take]; rfl)) ?_; (with_reducible refine (spec_CheckOnce.calls kj38 t937 t938 _ _ t939 t944 t945 _ ?side1 ?side2 A80.out).mono ?_); (case side1 => repeat (first | exact (Kd.Q_reads' HO941.out).2.2 | (with_reducible refine Kd.C_alloc ?_ _) | (with_reducible refine Kd.C_drewN ?_ _) | (with_reducible refine Kd.C_drew ?_))); (case side2 => exact (Kd.Q_reads' HO941.out).2.1); rintro e w98 ⟨rfl, hb⟩; refine ⟨_, rfl, ?_⟩; have n0_ := Aside0.mk (Kd.Q_below (by (with_reducible repeat (first | apply Kd.Q_alloc | apply Kd.Q_drewN | apply Kd.Q_drew)); exact HO941.out) hb); have n1_ := Aside0.mk (below_step (by repeat (first | (with_reducible first | exact HB.out | apply below_alloc | apply pw_below_drewN | apply below_drew1) | exact HB.out)) hb); clear HO941; clear HB; have HO941 := n0_; have HB := n1_; clear n0_ n1_; (try clear hb); (try clear hb2); (try clear hk); (try clear hi)) | ((with_reducible refine gate_callee (f := 87) rfl ?_); refine goesL_ (some 217) rfl rfl Try.func87 (by kernel_rfl) rfl #[.slice A1 l1.length c1] rfl (by (try simp only [List.map_toArray, List.map_cons, List.map_nil]); first | done | rfl | (simp only [List.length_drop, List.length_take]; rfl)) ?_; (with_reducible refine (spec_DrawPublicFrom.calls kj38 _ _ l1 t946 t947 _ ?side1 ?side2 A81.out).mono ?_); (case side1 => repeat (first | exact (Kd.C_below HR1.out HB.out) | (with_reducible refine Kd.C_alloc ?_ _) | (with_reducible refine Kd.C_drewN ?_ _) | (with_reducible refine Kd.C_drew ?_))); (case side2 => exact HC1.out); rintro e w99 ⟨v948, rfl, ho0, hb⟩; refine ⟨_, rfl, ?_⟩; have n0_ := Aside0.mk (Kd.Q_elder' (by (with_reducible repeat (first | apply Kd.Q_alloc | apply Kd.Q_drewN | apply Kd.Q_drew)); exact HO941.out) (Kd.Q_base ho0) hb); have n1_ := Aside0.mk (Kd.Q_lower (Kd.Q_new' ho0 (Kd.Q_lt (by (with_reducible repeat (first | apply Kd.Q_alloc | apply Kd.Q_drewN | apply Kd.Q_drew)); exact HO941.out))) (below_size (by repeat (first | (with_reducible first | exact HB.out | apply below_alloc | apply pw_below_drewN | apply below_drew1) | exact HB.out)))); have n2_ := Aside0.mk (below_step (by repeat (first | (with_reducible first | exact HB.out | apply below_alloc | apply pw_below_drewN | apply below_drew1) | exact HB.out)) hb); clear HO941; clear HB; have HO941 := n0_; have HO949 := n1_; have HB := n2_; clear n0_ n1_ n2_; (try clear hb); (try clear hb2); (try clear hk); (try clear hi); (try clear ho0); obtain ⟨Ao100, co100, eo100, _⟩ := Kd.Q_slice HO949.out; subst eo100) | ((with_reducible refine gate_callee (f := 84) rfl ?_); refine goesL_ (some 223) rfl rfl Try.func84 (by kernel_rfl) rfl #[.string t946, .slice Ao100 t947.length co100] rfl (by (try simp only [List.map_toArray, List.map_cons, List.map_nil]); first | done | rfl | (simp only [List.length_drop, List.length_take]; rfl)) ?_; (with_reducible refine (impl_PublicFrom.calls kj38 t946 _ _ t947 t950 t951 _ ?side1 ?side2 A82.out).mono ?_); (case side1 => repeat (first | exact (Kd.Q_reads' HO949.out).2.2 | (with_reducible refine Kd.C_alloc ?_ _) | (with_reducible refine Kd.C_drewN ?_ _) | (with_reducible refine Kd.C_drew ?_))); (case side2 => exact (Kd.Q_reads' HO949.out).2.1); rintro e w101 ⟨rfl, hb⟩; refine ⟨_, rfl, ?_⟩; have n0_ := Aside0.mk (Kd.Q_below (by (with_reducible repeat (first | apply Kd.Q_alloc | apply Kd.Q_drewN | apply Kd.Q_drew)); exact HO941.out) hb); have n1_ := Aside0.mk (Kd.Q_below (by (with_reducible repeat (first | apply Kd.Q_alloc | apply Kd.Q_drewN | apply Kd.Q_drew)); exact HO949.out) hb); have n2_ := Aside0.mk (below_step (by repeat (first | (with_reducible first | exact HB.out | apply below_alloc | apply pw_below_drewN | apply below_drew1) | exact HB.out)) hb); clear HO941; clear HO949; clear HB; have HO941 := n0_; have HO949 := n1_; have HB := n2_; clear n0_ n1_ n2_; (try clear hb); (try clear hb2); (try clear hk); (try clear hi)) | ((with_reducible refine gate_callee (f := 88) rfl ?_); refine goesL_ (some 229) rfl rfl Try.func88 (by kernel_rfl) rfl #[.string t946, .slice Ao100 t947.length co100] rfl (by (try simp only [List.map_toArray, List.map_cons, List.map_nil]); first | done | rfl | (simp only [List.length_drop, List.length_take]; rfl)) ?_; (with_reducible refine (spec_PublicFrom.calls kj38 t946 _ _ t947 t952 t953 _ ?side1 ?side2 A83.out).mono ?_); (case side1 => repeat (first | exact (Kd.Q_reads' HO949.out).2.2 | (with_reducible refine Kd.C_alloc ?_ _) | (with_reducible refine Kd.C_drewN ?_ _) | (with_reducible refine Kd.C_drew ?_))); (case side2 => exact (Kd.Q_reads' HO949.out).2.1); rintro e w102 ⟨rfl, hb⟩; refine ⟨_, rfl, ?_⟩; have n0_ := Aside0.mk (Kd.Q_below (by (with_reducible repeat (first | apply Kd.Q_alloc | apply Kd.Q_drewN | apply Kd.Q_drew)); exact HO941.out) hb); have n1_ := Aside0.mk (Kd.Q_below (by (with_reducible repeat (first | apply Kd.Q_alloc | apply Kd.Q_drewN | apply Kd.Q_drew)); exact HO949.out) hb); have n2_ := Aside0.mk (below_step (by repeat (first | (with_reducible first | exact HB.out | apply below_alloc | apply pw_below_drewN | apply below_drew1) | exact HB.out)) hb); clear HO941; clear HO949; clear HB; have HO941 := n0_; have HO949 := n1_; have HB := n2_; clear n0_ n1_ n2_; (try clear hb); (try clear hb2); (try clear hk); (try clear hi)))
           go_ret
           exact ⟨by first | rfl | (simp [errW_none, errW_some] <;> rfl) | (simp [*, errW_none, errW_some] <;> rfl), by repeat (first | (with_reducible first | exact HB.out | apply below_alloc | apply pw_below_drewN | apply below_drew1) | exact HB.out)⟩
        ·rw [if_neg c85] at H
         have c85b0 : (t942 == t944) = false := by simpa using c85
         (try (have c85b1 : decide (t942 = t944) = false := by simpa using c85))
         (try (have c85b2 : (t942 == t944) = false := by simpa using c85))
         (try (have c85b3 : ¬ (t942 = t944) := by simpa using c85))
         clear c85
         as_aux_lemma =>
          obtain rfl := Option.some.inj H
          go_wp2_with (first | ((with_reducible refine gate_callee (f := 85) rfl ?_); refine goesL_ (some 197) rfl rfl Try.func85 (by kernel_rfl) rfl #[.slice A1 l1.length c1] rfl (by (try simp only [List.map_toArray, List.map_cons, List.map_nil]); first | done | rfl | (simp only [List.length_drop, List.length_take]; rfl)) ?_; (with_reducible refine (spec_DrawCheckOnce.calls kj38 _ _ l1 t937 t938 t939 _ ?side1 ?side2 A78.out).mono ?_); (case side1 => repeat (first | exact (Kd.C_below HR1.out HB.out) | (with_reducible refine Kd.C_alloc ?_ _) | (with_reducible refine Kd.C_drewN ?_ _) | (with_reducible refine Kd.C_drew ?_))); (case side2 => exact HC1.out); rintro e w103 ⟨v940, rfl, ho0, hb⟩; refine ⟨_, rfl, ?_⟩; have n0_ := Aside0.mk (Kd.Q_lower ho0 (below_size (by repeat (first | (with_reducible first | exact HB.out | apply below_alloc | apply pw_below_drewN | apply below_drew1) | exact HB.out)))); have n1_ := Aside0.mk (below_step (by repeat (first | (with_reducible first | exact HB.out | apply below_alloc | apply pw_below_drewN | apply below_drew1) | exact HB.out)) hb); clear HB; have HO941 := n0_; have HB := n1_; clear n0_ n1_; (try clear hb); (try clear hb2); (try clear hk); (try clear hi); (try clear ho0); obtain ⟨Ao104, co104, eo104, _⟩ := Kd.Q_slice HO941.out; subst eo104) | ((with_reducible refine gate_callee (f := 83) rfl ?_); refine goesL_ (some 205) rfl rfl Try.func83 (by kernel_rfl) rfl #[.string t937, .string t938, .slice Ao104 t939.length co104] rfl (by (try simp only [List.map_toArray, List.map_cons, List.map_nil]); first | done | rfl | (simp only [List.length_drop, List.length_take]; rfl)) ?_; (with_reducible refine (impl_CheckOnce.calls kj38 t937 t938 _ _ t939 t942 t943 _ ?side1 ?side2 A79.out).mono ?_); (case side1 => repeat (first | exact (Kd.Q_reads' HO941.out).2.2 | (with_reducible refine Kd.C_alloc ?_ _) | (with_reducible refine Kd.C_drewN ?_ _) | (with_reducible refine Kd.C_drew ?_))); (case side2 => exact (Kd.Q_reads' HO941.out).2.1); rintro e w105 ⟨rfl, hb⟩; refine ⟨_, rfl, ?_⟩; have n0_ := Aside0.mk (Kd.Q_below (by (with_reducible repeat (first | apply Kd.Q_alloc | apply Kd.Q_drewN | apply Kd.Q_drew)); exact HO941.out) hb); have n1_ := Aside0.mk (below_step (by repeat (first | (with_reducible first | exact HB.out | apply below_alloc | apply pw_below_drewN | apply below_drew1) | exact HB.out)) hb); clear HO941; clear HB; have HO941 := n0_; have HB := n1_; clear n0_ n1_; (try clear hb); (try clear hb2); (try clear hk); (try clear hi)) | ((with_reducible refine gate_callee (f := 86) rfl ?_); refine goesL_ (some 212) rfl rfl Try.func86 (by kernel_rfl) rfl #[.string t937, .string t938, .slice Ao104 t939.length co104] rfl (by (try simp only [List.map_toArray, List.map_cons, List.map_nil]); first | done | rfl | (simp only [List.length_drop, List.length_take]; rfl)) ?_; (with_reducible refine (spec_CheckOnce.calls kj38 t937 t938 _ _ t939 t944 t945 _ ?side1 ?side2 A80.out).mono ?_); (case side1 => repeat (first | exact (Kd.Q_reads' HO941.out).2.2 | (with_reducible refine Kd.C_alloc ?_ _) | (with_reducible refine Kd.C_drewN ?_ _) | (with_reducible refine Kd.C_drew ?_))); (case side2 => exact (Kd.Q_reads' HO941.out).2.1); rintro e w106 ⟨rfl, hb⟩; refine ⟨_, rfl, ?_⟩; have n0_ := Aside0.mk (Kd.Q_below (by (with_reducible repeat (first | apply Kd.Q_alloc | apply Kd.Q_drewN | apply Kd.Q_drew)); exact HO941.out) hb); have n1_ := Aside0.mk (below_step (by repeat (first | (with_reducible first | exact HB.out | apply below_alloc | apply pw_below_drewN | apply below_drew1) | exact HB.out)) hb); clear HO941; clear HB; have HO941 := n0_; have HB := n1_; clear n0_ n1_; (try clear hb); (try clear hb2); (try clear hk); (try clear hi)) | ((with_reducible refine gate_callee (f := 87) rfl ?_); refine goesL_ (some 217) rfl rfl Try.func87 (by kernel_rfl) rfl #[.slice A1 l1.length c1] rfl (by (try simp only [List.map_toArray, List.map_cons, List.map_nil]); first | done | rfl | (simp only [List.length_drop, List.length_take]; rfl)) ?_; (with_reducible refine (spec_DrawPublicFrom.calls kj38 _ _ l1 t946 t947 _ ?side1 ?side2 A81.out).mono ?_); (case side1 => repeat (first | exact (Kd.C_below HR1.out HB.out) | (with_reducible refine Kd.C_alloc ?_ _) | (with_reducible refine Kd.C_drewN ?_ _) | (with_reducible refine Kd.C_drew ?_))); (case side2 => exact HC1.out); rintro e w107 ⟨v948, rfl, ho0, hb⟩; refine ⟨_, rfl, ?_⟩; have n0_ := Aside0.mk (Kd.Q_elder' (by (with_reducible repeat (first | apply Kd.Q_alloc | apply Kd.Q_drewN | apply Kd.Q_drew)); exact HO941.out) (Kd.Q_base ho0) hb); have n1_ := Aside0.mk (Kd.Q_lower (Kd.Q_new' ho0 (Kd.Q_lt (by (with_reducible repeat (first | apply Kd.Q_alloc | apply Kd.Q_drewN | apply Kd.Q_drew)); exact HO941.out))) (below_size (by repeat (first | (with_reducible first | exact HB.out | apply below_alloc | apply pw_below_drewN | apply below_drew1) | exact HB.out)))); have n2_ := Aside0.mk (below_step (by repeat (first | (with_reducible first | exact HB.out | apply below_alloc | apply pw_below_drewN | apply below_drew1) | exact HB.out)) hb); clear HO941; clear HB; have HO941 := n0_; have HO949 := n1_; have HB := n2_; clear n0_ n1_ n2_; (try clear hb); (try clear hb2); (try clear hk); (try clear hi); (try clear ho0); obtain ⟨Ao108, co108, eo108, _⟩ := Kd.Q_slice HO949.out; subst eo108) | ((with_reducible refine gate_callee (f := 84) rfl ?_); refine goesL_ (some 223) rfl rfl Try.func84 (by kernel_rfl) rfl #[.string t946, .slice Ao108 t947.length co108] rfl (by (try simp only [List.map_toArray, List.map_cons, List.map_nil]); first | done | rfl | (simp only [List.length_drop, List.length_take]; rfl)) ?_; (with_reducible refine (impl_PublicFrom.calls kj38 t946 _ _ t947 t950 t951 _ ?side1 ?side2 A82.out).mono ?_); (case side1 => repeat (first | exact (Kd.Q_reads' HO949.out).2.2 | (with_reducible refine Kd.C_alloc ?_ _) | (with_reducible refine Kd.C_drewN ?_ _) | (with_reducible refine Kd.C_drew ?_))); (case side2 => exact (Kd.Q_reads' HO949.out).2.1); rintro e w109 ⟨rfl, hb⟩; refine ⟨_, rfl, ?_⟩; have n0_ := Aside0.mk (Kd.Q_below (by (with_reducible repeat (first | apply Kd.Q_alloc | apply Kd.Q_drewN | apply Kd.Q_drew)); exact HO941.out) hb); have n1_ := Aside0.mk (Kd.Q_below (by (with_reducible repeat (first | apply Kd.Q_alloc | apply Kd.Q_drewN | apply Kd.Q_drew)); exact HO949.out) hb); have n2_ := Aside0.mk (below_step (by repeat (first | (with_reducible first | exact HB.out | apply below_alloc | apply pw_below_drewN | apply below_drew1) | exact HB.out)) hb); clear HO941; clear HO949; clear HB; have HO941 := n0_; have HO949 := n1_; have HB := n2_; clear n0_ n1_ n2_; (try clear hb); (try clear hb2); (try clear hk); (try clear hi)) | ((with_reducible refine gate_callee (f := 88) rfl ?_); refine goesL_ (some 229) rfl rfl Try.func88 (by kernel_rfl) rfl #[.string t946, .slice Ao108 t947.length co108] rfl (by (try simp only [List.map_toArray, List.map_cons, List.map_nil]); first | done | rfl | (simp only [List.length_drop, List.length_take]; rfl)) ?_; (with_reducible refine (spec_PublicFrom.calls kj38 t946 _ _ t947 t952 t953 _ ?side1 ?side2 A83.out).mono ?_); (case side1 => repeat (first | exact (Kd.Q_reads' HO949.out).2.2 | (with_reducible refine Kd.C_alloc ?_ _) | (with_reducible refine Kd.C_drewN ?_ _) | (with_reducible refine Kd.C_drew ?_))); (case side2 => exact (Kd.Q_reads' HO949.out).2.1); rintro e w110 ⟨rfl, hb⟩; refine ⟨_, rfl, ?_⟩; have n0_ := Aside0.mk (Kd.Q_below (by (with_reducible repeat (first | apply Kd.Q_alloc | apply Kd.Q_drewN | apply Kd.Q_drew)); exact HO941.out) hb); have n1_ := Aside0.mk (Kd.Q_below (by (with_reducible repeat (first | apply Kd.Q_alloc | apply Kd.Q_drewN | apply Kd.Q_drew)); exact HO949.out) hb); have n2_ := Aside0.mk (below_step (by repeat (first | (with_reducible first | exact HB.out | apply below_alloc | apply pw_below_drewN | apply below_drew1) | exact HB.out)) hb); clear HO941; clear HO949; clear HB; have HO941 := n0_; have HO949 := n1_; have HB := n2_; clear n0_ n1_ n2_; (try clear hb); (try clear hb2); (try clear hk); (try clear hi)))
          go_ret
          exact ⟨by first | rfl | (simp [errW_none, errW_some] <;> rfl) | (simp [*, errW_none, errW_some] <;> rfl), by repeat (first | (with_reducible first | exact HB.out | apply below_alloc | apply pw_below_drewN | apply below_drew1) | exact HB.out)⟩
       ·rw [if_neg c84] at H
        have c84b0 : (t943 == t945) = false := by simpa using c84
        (try (have c84b1 : decide (t943 = t945) = false := by simpa using c84))
        (try (have c84b2 : (t943 == t945) = false := by simpa using c84))
        (try (have c84b3 : ¬ (t943 = t945) := by simpa using c84))
        clear c84
        as_aux_lemma =>
         obtain rfl := Option.some.inj H
         go_wp2_with (first | ((with_reducible refine gate_callee (f := 85) rfl ?_); refine goesL_ (some 197) rfl rfl Try.func85 (by kernel_rfl) rfl #[.slice A1 l1.length c1] rfl (by (try simp only [List.map_toArray, List.map_cons, List.map_nil]); first | done | rfl | (simp only [List.length_drop, List.length_take]; rfl)) ?_; (with_reducible refine (spec_DrawCheckOnce.calls kj38 _ _ l1 t937 t938 t939 _ ?side1 ?side2 A78.out).mono ?_); (case side1 => repeat (first | exact (Kd.C_below HR1.out HB.out) | (with_reducible refine Kd.C_alloc ?_ _) | (with_reducible refine Kd.C_drewN ?_ _) | (with_reducible refine Kd.C_drew ?_))); (case side2 => exact HC1.out); rintro e w111 ⟨v940, rfl, ho0, hb⟩; refine ⟨_, rfl, ?_⟩; have n0_ := Aside0.mk (Kd.Q_lower ho0 (below_size (by repeat (first | (with_reducible first | exact HB.out | apply below_alloc | apply pw_below_drewN | apply below_drew1) | exact HB.out)))); have n1_ := Aside0.mk (below_step (by repeat (first | (with_reducible first | exact HB.out | apply below_alloc | apply pw_below_drewN | apply below_drew1) | exact HB.out)) hb); clear HB; have HO941 := n0_; have HB := n1_; clear n0_ n1_; (try clear hb); (try clear hb2); (try clear hk); (try clear hi); (try clear ho0); obtain ⟨Ao112, co112, eo112, _⟩ := Kd.Q_slice HO941.out; subst eo112) | ((with_reducible refine gate_callee (f := 83) rfl ?_); refine goesL_ (some 205) rfl rfl Try.func83 (by kernel_rfl) rfl #[.string t937, .string t938, .slice Ao112 t939.length co112] rfl (by (try simp only [List.map_toArray, List.map_cons, List.map_nil]); first | done | rfl | (simp only [List.length_drop, List.length_take]; rfl)) ?_; (with_reducible refine (impl_CheckOnce.calls kj38 t937 t938 _ _ t939 t942 t943 _ ?side1 ?side2 A79.out).mono ?_); (case side1 => repeat (first | exact (Kd.Q_reads' HO941.out).2.2 | (with_reducible refine Kd.C_alloc ?_ _) | (with_reducible refine Kd.C_drewN ?_ _) | (with_reducible refine Kd.C_drew ?_))); (case side2 => exact (Kd.Q_reads' HO941.out).2.1); rintro e w113 ⟨rfl, hb⟩; refine ⟨_, rfl, ?_⟩; have n0_ := Aside0.mk (Kd.Q_below (by (with_reducible repeat (first | apply Kd.Q_alloc | apply Kd.Q_drewN | apply Kd.Q_drew)); exact HO941.out) hb); have n1_ := Aside0.mk (below_step (by repeat (first | (with_reducible first | exact HB.out | apply below_alloc | apply pw_below_drewN | apply below_drew1) | exact HB.out)) hb); clear HO941; clear HB; have HO941 := n0_; have HB := n1_; clear n0_ n1_; (try clear hb); (try clear hb2); (try clear hk); (try clear hi)) | ((with_reducible refine gate_callee (f := 86) rfl ?_); refine goesL_ (some 212) rfl rfl Try.func86 (by kernel_rfl) rfl #[.string t937, .string t938, .slice Ao112 t939.length co112] rfl (by (try simp only [List.map_toArray, List.map_cons, List.map_nil]); first | done | rfl | (simp only [List.length_drop, List.length_take]; rfl)) ?_; (with_reducible refine (spec_CheckOnce.calls kj38 t937 t938 _ _ t939 t944 t945 _ ?side1 ?side2 A80.out).mono ?_); (case side1 => repeat (first | exact (Kd.Q_reads' HO941.out).2.2 | (with_reducible refine Kd.C_alloc ?_ _) | (with_reducible refine Kd.C_drewN ?_ _) | (with_reducible refine Kd.C_drew ?_))); (case side2 => exact (Kd.Q_reads' HO941.out).2.1); rintro e w114 ⟨rfl, hb⟩; refine ⟨_, rfl, ?_⟩; have n0_ := Aside0.mk (Kd.Q_below (by (with_reducible repeat (first | apply Kd.Q_alloc | apply Kd.Q_drewN | apply Kd.Q_drew)); exact HO941.out) hb); have n1_ := Aside0.mk (below_step (by repeat (first | (with_reducible first | exact HB.out | apply below_alloc | apply pw_below_drewN | apply below_drew1) | exact HB.out)) hb); clear HO941; clear HB; have HO941 := n0_; have HB := n1_; clear n0_ n1_; (try clear hb); (try clear hb2); (try clear hk); (try clear hi)) | ((with_reducible refine gate_callee (f := 87) rfl ?_); refine goesL_ (some 217) rfl rfl Try.func87 (by kernel_rfl) rfl #[.slice A1 l1.length c1] rfl (by (try simp only [List.map_toArray, List.map_cons, List.map_nil]); first | done | rfl | (simp only [List.length_drop, List.length_take]; rfl)) ?_; (with_reducible refine (spec_DrawPublicFrom.calls kj38 _ _ l1 t946 t947 _ ?side1 ?side2 A81.out).mono ?_); (case side1 => repeat (first | exact (Kd.C_below HR1.out HB.out) | (with_reducible refine Kd.C_alloc ?_ _) | (with_reducible refine Kd.C_drewN ?_ _) | (with_reducible refine Kd.C_drew ?_))); (case side2 => exact HC1.out); rintro e w115 ⟨v948, rfl, ho0, hb⟩; refine ⟨_, rfl, ?_⟩; have n0_ := Aside0.mk (Kd.Q_elder' (by (with_reducible repeat (first | apply Kd.Q_alloc | apply Kd.Q_drewN | apply Kd.Q_drew)); exact HO941.out) (Kd.Q_base ho0) hb); have n1_ := Aside0.mk (Kd.Q_lower (Kd.Q_new' ho0 (Kd.Q_lt (by (with_reducible repeat (first | apply Kd.Q_alloc | apply Kd.Q_drewN | apply Kd.Q_drew)); exact HO941.out))) (below_size (by repeat (first | (with_reducible first | exact HB.out | apply below_alloc | apply pw_below_drewN | apply below_drew1) | exact HB.out)))); have n2_ := Aside0.mk (below_step (by repeat (first | (with_reducible first | exact HB.out | apply below_alloc | apply pw_below_drewN | apply below_drew1) | exact HB.out)) hb); clear HO941; clear HB; have HO941 := n0_; have HO949 := n1_; have HB := n2_; clear n0_ n1_ n2_; (try clear hb); (try clear hb2); (try clear hk); (try clear hi); (try clear ho0); obtain ⟨Ao116, co116, eo116, _⟩ := Kd.Q_slice HO949.out; subst eo116) | ((with_reducible refine gate_callee (f := 84) rfl ?_); refine goesL_ (some 223) rfl rfl Try.func84 (by kernel_rfl) rfl #[.string t946, .slice Ao116 t947.length co116] rfl (by (try simp only [List.map_toArray, List.map_cons, List.map_nil]); first | done | rfl | (simp only [List.length_drop, List.length_take]; rfl)) ?_; (with_reducible refine (impl_PublicFrom.calls kj38 t946 _ _ t947 t950 t951 _ ?side1 ?side2 A82.out).mono ?_); (case side1 => repeat (first | exact (Kd.Q_reads' HO949.out).2.2 | (with_reducible refine Kd.C_alloc ?_ _) | (with_reducible refine Kd.C_drewN ?_ _) | (with_reducible refine Kd.C_drew ?_))); (case side2 => exact (Kd.Q_reads' HO949.out).2.1); rintro e w117 ⟨rfl, hb⟩; refine ⟨_, rfl, ?_⟩; have n0_ := Aside0.mk (Kd.Q_below (by (with_reducible repeat (first | apply Kd.Q_alloc | apply Kd.Q_drewN | apply Kd.Q_drew)); exact HO941.out) hb); have n1_ := Aside0.mk (Kd.Q_below (by (with_reducible repeat (first | apply Kd.Q_alloc | apply Kd.Q_drewN | apply Kd.Q_drew)); exact HO949.out) hb); have n2_ := Aside0.mk (below_step (by repeat (first | (with_reducible first | exact HB.out | apply below_alloc | apply pw_below_drewN | apply below_drew1) | exact HB.out)) hb); clear HO941; clear HO949; clear HB; have HO941 := n0_; have HO949 := n1_; have HB := n2_; clear n0_ n1_ n2_; (try clear hb); (try clear hb2); (try clear hk); (try clear hi)) | ((with_reducible refine gate_callee (f := 88) rfl ?_); refine goesL_ (some 229) rfl rfl Try.func88 (by kernel_rfl) rfl #[.string t946, .slice Ao116 t947.length co116] rfl (by (try simp only [List.map_toArray, List.map_cons, List.map_nil]); first | done | rfl | (simp only [List.length_drop, List.length_take]; rfl)) ?_; (with_reducible refine (spec_PublicFrom.calls kj38 t946 _ _ t947 t952 t953 _ ?side1 ?side2 A83.out).mono ?_); (case side1 => repeat (first | exact (Kd.Q_reads' HO949.out).2.2 | (with_reducible refine Kd.C_alloc ?_ _) | (with_reducible refine Kd.C_drewN ?_ _) | (with_reducible refine Kd.C_drew ?_))); (case side2 => exact (Kd.Q_reads' HO949.out).2.1); rintro e w118 ⟨rfl, hb⟩; refine ⟨_, rfl, ?_⟩; have n0_ := Aside0.mk (Kd.Q_below (by (with_reducible repeat (first | apply Kd.Q_alloc | apply Kd.Q_drewN | apply Kd.Q_drew)); exact HO941.out) hb); have n1_ := Aside0.mk (Kd.Q_below (by (with_reducible repeat (first | apply Kd.Q_alloc | apply Kd.Q_drewN | apply Kd.Q_drew)); exact HO949.out) hb); have n2_ := Aside0.mk (below_step (by repeat (first | (with_reducible first | exact HB.out | apply below_alloc | apply pw_below_drewN | apply below_drew1) | exact HB.out)) hb); clear HO941; clear HO949; clear HB; have HO941 := n0_; have HO949 := n1_; have HB := n2_; clear n0_ n1_ n2_; (try clear hb); (try clear hb2); (try clear hk); (try clear hi)))
         go_ret
         exact ⟨by first | rfl | (simp [errW_none, errW_some] <;> rfl) | (simp [*, errW_none, errW_some] <;> rfl), by repeat (first | (with_reducible first | exact HB.out | apply below_alloc | apply pw_below_drewN | apply below_drew1) | exact HB.out)⟩
def laws_FnOnce.Pure : Prop := ∀ (l0 : List Int) (l1 : List Int), l0.length ≤ maxLen → l0.length * 1 ≤ 140737488351232 → (∀ x ∈ l0, (Lit.int .u8 x).wf = true) → l1.length ≤ maxLen → l1.length * 1 ≤ 140737488351232 → (∀ x ∈ l1, (Lit.int .u8 x).wf = true) → ∃ k, laws_FnOnce.f k l0 l1 = some true
theorem laws_FnOnce.walk (P : laws_FnOnce.Pure) (a0 : Option Addr) (len0 cap0 : Nat) (z0 : List Int) (a1 : Option Addr) (len1 cap1 : Nat) (z1 : List Int) (w : World) (w0 : (a0 = none ∧ len0 = 0 ∧ cap0 = 0 ∧ z0 = []) ∨ ∃ x, a0 = some x ∧ len0 ≤ cap0 ∧ cap0 ≤ maxLen ∧ z0.length = cap0 ∧ (∀ i, i < z0.length → w.cell? (x.add i) = some (.int .u8 (z0.getD i 0))) ∧ ∀ n ∈ z0, (Lit.int .u8 n).wf = true) (y0 : len0 * 1 ≤ 140737488351232) (w1 : (a1 = none ∧ len1 = 0 ∧ cap1 = 0 ∧ z1 = []) ∨ ∃ x, a1 = some x ∧ len1 ≤ cap1 ∧ cap1 ≤ maxLen ∧ z1.length = cap1 ∧ (∀ i, i < z1.length → w.cell? (x.add i) = some (.int .u8 (z1.getD i 0))) ∧ ∀ n ∈ z1, (Lit.int .u8 n).wf = true) (y1 : len1 * 1 ≤ 140737488351232) :
  Calls Try.prog 14 #[.slice a0 len0 cap0, .slice a1 len1 cap1] w fun e w' => e = .returned (.bool true) ∧ Below w.heap.size w w' := by
 obtain ⟨l0, rfl, hr0, hm0, hw0, hc0⟩ := ReadsInt.ofRowC w0
 obtain ⟨l1, rfl, hr1, hm1, hw1, hc1⟩ := ReadsInt.ofRowC w1
 obtain ⟨k, h⟩ := P l0 l1 hm0 y0 hw0 hm1 y1 hw1
 refine (laws_FnOnce.calls k _ _ l0 _ _ l1 true w (Kd.C_of_reads (d := (0 : Int)) (h1 := fun _ => rfl) hr0) hc0 (Kd.C_of_reads (d := (0 : Int)) (h1 := fun _ => rfl) hr1) hc1 h).mono ?_
 rintro e w' ⟨rfl, hd⟩
 exact ⟨rfl, hd⟩
end Go.Proofs.Ytfajabboibcgpaa.PA
end
section
namespace Go.Proofs.Ytfajabboibcgpaa.PA
open Go.RowKit Go.Proofs.YtfajabboibcgpaaW.PrintWords Go.Proofs.YtfajabboibcgpaaW.PrintLast Go.Proofs.YtfajabboibcgpaaW.PrintMore
attribute [local go_sem] max2_int min2_int max_two min_two max_three min_three max_four min_four   -- for this text's walks alone
set_option linter.unusedVariables false
set_option linter.unusedSimpArgs false
end Go.Proofs.Ytfajabboibcgpaa.PA
end
section
namespace Go.Proofs.Ytfajabboibcgpaa.PA
open Go.RowKit Go.Proofs.YtfajabboibcgpaaW.PrintWords Go.Proofs.YtfajabboibcgpaaW.PrintLast Go.Proofs.YtfajabboibcgpaaW.PrintMore
attribute [local go_sem] max2_int min2_int max_two min_two max_three min_three max_four min_four   -- for this text's walks alone
set_option linter.unusedVariables false
set_option linter.unusedSimpArgs false
end Go.Proofs.Ytfajabboibcgpaa.PA
end
section
namespace Go.Proofs.Ytfajabboibcgpaa.PA
open Go.RowKit Go.Proofs.YtfajabboibcgpaaW.PrintWords Go.Proofs.YtfajabboibcgpaaW.PrintLast Go.Proofs.YtfajabboibcgpaaW.PrintMore
attribute [local go_sem] max2_int min2_int max_two min_two max_three min_three max_four min_four   -- for this text's walks alone
set_option linter.unusedVariables false
set_option linter.unusedSimpArgs false
end Go.Proofs.Ytfajabboibcgpaa.PA
end
section
namespace Go.Proofs.Ytfajabboibcgpaa.PA
open Go.RowKit Go.Proofs.YtfajabboibcgpaaW.PrintWords Go.Proofs.YtfajabboibcgpaaW.PrintLast Go.Proofs.YtfajabboibcgpaaW.PrintMore
attribute [local go_sem] max2_int min2_int max_two min_two max_three min_three max_four min_four   -- for this text's walks alone
set_option linter.unusedVariables false
set_option linter.unusedSimpArgs false
end Go.Proofs.Ytfajabboibcgpaa.PA
end
section
namespace Go.Proofs.Ytfajabboibcgpaa.PA
open Go.RowKit Go.Proofs.YtfajabboibcgpaaW.PrintWords Go.Proofs.YtfajabboibcgpaaW.PrintLast Go.Proofs.YtfajabboibcgpaaW.PrintMore
attribute [local go_sem] max2_int min2_int max_two min_two max_three min_three max_four min_four   -- for this text's walks alone
set_option linter.unusedVariables false
set_option linter.unusedSimpArgs false
end Go.Proofs.Ytfajabboibcgpaa.PA
end
section
namespace Go.Proofs.Ytfajabboibcgpaa.PA
open Go.RowKit Go.Proofs.YtfajabboibcgpaaW.PrintWords Go.Proofs.YtfajabboibcgpaaW.PrintLast Go.Proofs.YtfajabboibcgpaaW.PrintMore
attribute [local go_sem] max2_int min2_int max_two min_two max_three min_three max_four min_four   -- for this text's walks alone
set_option linter.unusedVariables false
set_option linter.unusedSimpArgs false
end Go.Proofs.Ytfajabboibcgpaa.PA
end
section
namespace Go.Proofs.Ytfajabboibcgpaa.PA
open Go.RowKit Go.Proofs.YtfajabboibcgpaaW.PrintWords Go.Proofs.YtfajabboibcgpaaW.PrintLast Go.Proofs.YtfajabboibcgpaaW.PrintMore
attribute [local go_sem] max2_int min2_int max_two min_two max_three min_three max_four min_four   -- for this text's walks alone
set_option linter.unusedVariables false
set_option linter.unusedSimpArgs false
end Go.Proofs.Ytfajabboibcgpaa.PA
end
section
namespace Go.Proofs.Ytfajabboibcgpaa.PA
open Go.RowKit Go.Proofs.YtfajabboibcgpaaW.PrintWords Go.Proofs.YtfajabboibcgpaaW.PrintLast Go.Proofs.YtfajabboibcgpaaW.PrintMore
attribute [local go_sem] max2_int min2_int max_two min_two max_three min_three max_four min_four   -- for this text's walks alone
set_option linter.unusedVariables false
set_option linter.unusedSimpArgs false
end Go.Proofs.Ytfajabboibcgpaa.PA
end
section
namespace Go.Proofs.Ytfajabboibcgpaa.PA
open Go.RowKit Go.Proofs.YtfajabboibcgpaaW.PrintWords Go.Proofs.YtfajabboibcgpaaW.PrintLast Go.Proofs.YtfajabboibcgpaaW.PrintMore
attribute [local go_sem] max2_int min2_int max_two min_two max_three min_three max_four min_four   -- for this text's walks alone
set_option linter.unusedVariables false
set_option linter.unusedSimpArgs false
end Go.Proofs.Ytfajabboibcgpaa.PA
end
section
namespace Go.Proofs.Ytfajabboibcgpaa.PA
open Go.RowKit Go.Proofs.YtfajabboibcgpaaW.PrintWords Go.Proofs.YtfajabboibcgpaaW.PrintLast Go.Proofs.YtfajabboibcgpaaW.PrintMore
attribute [local go_sem] max2_int min2_int max_two min_two max_three min_three max_four min_four   -- for this text's walks alone
set_option linter.unusedVariables false
set_option linter.unusedSimpArgs false
end Go.Proofs.Ytfajabboibcgpaa.PA
end
section
namespace Go.Proofs.Ytfajabboibcgpaa.PA
open Go.RowKit Go.Proofs.YtfajabboibcgpaaW.PrintWords Go.Proofs.YtfajabboibcgpaaW.PrintLast Go.Proofs.YtfajabboibcgpaaW.PrintMore
attribute [local go_sem] max2_int min2_int max_two min_two max_three min_three max_four min_four   -- for this text's walks alone
set_option linter.unusedVariables false
set_option linter.unusedSimpArgs false
end Go.Proofs.Ytfajabboibcgpaa.PA
end
section
namespace Go.Proofs.Ytfajabboibcgpaa.PA
open Go.RowKit Go.Proofs.YtfajabboibcgpaaW.PrintWords Go.Proofs.YtfajabboibcgpaaW.PrintLast Go.Proofs.YtfajabboibcgpaaW.PrintMore
attribute [local go_sem] max2_int min2_int max_two min_two max_three min_three max_four min_four   -- for this text's walks alone
set_option linter.unusedVariables false
set_option linter.unusedSimpArgs false
end Go.Proofs.Ytfajabboibcgpaa.PA
end
section
namespace Go.Proofs.Ytfajabboibcgpaa.PA
open Go.RowKit Go.Proofs.YtfajabboibcgpaaW.PrintWords Go.Proofs.YtfajabboibcgpaaW.PrintLast Go.Proofs.YtfajabboibcgpaaW.PrintMore
attribute [local go_sem] max2_int min2_int max_two min_two max_three min_three max_four min_four   -- for this text's walks alone
set_option linter.unusedVariables false
set_option linter.unusedSimpArgs false
end Go.Proofs.Ytfajabboibcgpaa.PA
end
section
namespace Go.Proofs.Ytfajabboibcgpaa.PA
open Go.RowKit Go.Proofs.YtfajabboibcgpaaW.PrintWords Go.Proofs.YtfajabboibcgpaaW.PrintLast Go.Proofs.YtfajabboibcgpaaW.PrintMore
attribute [local go_sem] max2_int min2_int max_two min_two max_three min_three max_four min_four   -- for this text's walks alone
set_option linter.unusedVariables false
set_option linter.unusedSimpArgs false
end Go.Proofs.Ytfajabboibcgpaa.PA
end
section
namespace Go.Proofs.Ytfajabboibcgpaa.PA
open Go.RowKit Go.Proofs.YtfajabboibcgpaaW.PrintWords Go.Proofs.YtfajabboibcgpaaW.PrintLast Go.Proofs.YtfajabboibcgpaaW.PrintMore
attribute [local go_sem] max2_int min2_int max_two min_two max_three min_three max_four min_four   -- for this text's walks alone
set_option linter.unusedVariables false
set_option linter.unusedSimpArgs false
end Go.Proofs.Ytfajabboibcgpaa.PA
end
section
namespace Go.Proofs.Ytfajabboibcgpaa.PA
open Go.RowKit Go.Proofs.YtfajabboibcgpaaW.PrintWords Go.Proofs.YtfajabboibcgpaaW.PrintLast Go.Proofs.YtfajabboibcgpaaW.PrintMore
attribute [local go_sem] max2_int min2_int max_two min_two max_three min_three max_four min_four   -- for this text's walks alone
set_option linter.unusedVariables false
set_option linter.unusedSimpArgs false
end Go.Proofs.Ytfajabboibcgpaa.PA
end
section
namespace Go.Proofs.Ytfajabboibcgpaa.PB
open Go.RowKit Go.Proofs.YtfajabboibcgpaaW.PrintWords Go.Proofs.YtfajabboibcgpaaW.PrintLast Go.Proofs.YtfajabboibcgpaaW.PrintMore
set_option linter.unusedVariables false
theorem ev_pos {α : Type} {c : Prop} [Decidable c] {f g : Nat → Option α} {r : α} (hc : c) (h : Ev f r) : Ev (fun k => if c then f k else g k) r := by
  simp only [if_pos hc]; exact h
theorem ev_neg {α : Type} {c : Prop} [Decidable c] {f g : Nat → Option α} {r : α} (hc : ¬ c) (h : Ev g r) : Ev (fun k => if c then f k else g k) r := by
  simp only [if_neg hc]; exact h
theorem ev_bind {α β : Type} {g : Nat → Option α} {f : Nat → α → Option β} {a : α} {r : β} (h : Ev g a) (k : Ev (fun n => f n a) r) : Ev (fun n => (g n).bind (f n)) r := Ev.bind h k
theorem ev_const {α β : Type} {o : Option α} {f : Nat → α → Option β} {a : α} {r : β} (h : o = some a) (k : Ev (fun n => f n a) r) : Ev (fun n => o.bind (f n)) r := by
  subst h; exact k
theorem ev_of_eq {α : Type} {o : Option α} {r : α} (h : o = some r) : Ev (fun _ => o) r := by subst h; exact Ev.now r
theorem ev_eq {α : Type} {f : Nat → Option α} {r r' : α} (h : Ev f r) (e : r = r') : Ev f r' := e ▸ h
theorem w64 {x : Int} (h0 : -9223372036854775808 ≤ x) (h1 : x ≤ 9223372036854775807) : wrap64 x = x := by
  unfold wrap64; omega
theorem size_toList (s : ByteArray) : s.toList.length = s.size := by rw [ByteArray.toList_eq]; exact data_length s
theorem bt_get (s : ByteArray) (i : Nat) (h : i < s.size) : bt s (i : Int) = ((s.toList.getD i 0).toNat : Int) := by
  rw [ByteArray.toList_eq]
  unfold bt
  rw [dif_pos (by simpa using h)]
  have h' : i < s.data.toList.length := by rw [data_length]; exact h
  simp [List.getD_eq_getElem?_getD, List.getElem?_eq_getElem h']
  rfl
end Go.Proofs.Ytfajabboibcgpaa.PB
end
section
namespace Go.Proofs.Ytfajabboibcgpaa.PL
open Go.RowKit Go.Proofs.YtfajabboibcgpaaW.PrintWords Go.Proofs.YtfajabboibcgpaaW.PrintLast Go.Proofs.YtfajabboibcgpaaW.PrintMore Go.Proofs.Ytfajabboibcgpaa.PB Go.Proofs.Ytfajabboibcgpaa.PA
set_option linter.unusedVariables false
theorem rdOf_at {α : Type} (d : α) (l : List α) (i : Nat) (h : i < l.length) : rdOf d l (i : Int) = l[i] := by
  simp [rdOf, List.getD_eq_getElem?_getD, List.getElem?_eq_getElem h]
end Go.Proofs.Ytfajabboibcgpaa.PL
end
section
namespace Go.Proofs.Ytfajabboibcgpaa.PC
open Go.RowKit Go.Proofs.YtfajabboibcgpaaW.PrintWords Go.Proofs.YtfajabboibcgpaaW.PrintLast Go.Proofs.YtfajabboibcgpaaW.PrintMore Go.Proofs.Ytfajabboibcgpaa.PB Go.Proofs.Ytfajabboibcgpaa.PL Go.Proofs.Ytfajabboibcgpaa.PA
set_option linter.unusedVariables false
def Bys (c : List Int) : Prop := ∀ x ∈ c, 0 ≤ x ∧ x ≤ 255
theorem code_of (c : List Int) (h : ∀ x ∈ c, (Lit.int .u8 x).wf = true) : Bys c := by
  intro x hx
  have := h x hx
  simp [Lit.wf] at this
  have e1 : IntKind.u8.min = 0 := rfl
  have e2 : IntKind.u8.max = 255 := rfl
  rw [e1, e2] at this
  omega
theorem code_at {c : List Int} (h : Bys c) (i : Int) : 0 ≤ rd c i ∧ rd c i ≤ 255 := by
  unfold rd
  rw [List.getD_eq_getElem?_getD]
  cases e : c[i.toNat]? with
  | none => simp
  | some x => exact h x (List.mem_of_getElem? e)
theorem wrap_u64 (n : Int) : IntKind.u64.wrap n = n % 18446744073709551616 := by simp [IntKind.wrap, IntKind.bits, IntKind.signed]
theorem and255 (x : Int) (h0 : 0 ≤ x) (h1 : x < 16777216) : 0 ≤ wrap64 (Go.bits .and .u64 x 255) ∧ wrap64 (Go.bits .and .u64 x 255) ≤ 255 := by
  have h := Go.bits_mask .u64 24 (by decide) (fun n a b => by rw [wrap_u64]; omega) 8 (by decide) x h0 (by omega)
  have e : ((2 : Int) ^ 8 - 1) = 255 := by decide
  rw [e] at h
  rw [h, w64 (by omega) (by omega)]
  omega
def Drawn {α : Type} (i : Int) (K : Int) (o : Option (α × Int × Int)) (P : α → Prop) : Prop := ∃ v i' s', o = some (v, i', s') ∧ P v ∧ i ≤ i' ∧ i' ≤ i + K
theorem next_d {c : List Int} (hc : Bys c) (i s : Int) (h0 : 0 ≤ i) (h1 : i ≤ 1000000000000) : Drawn i 1 (spec_l1Cur_next.f c i s) (fun v => 0 ≤ v ∧ v ≤ 255) := by
  have e : wrap64 (i + 1) = i + 1 := w64 (by omega) (by omega)
  have hr := code_at hc i
  have hv : wrap64 (rd c i) = rd c i := w64 (by omega) (by omega)
  unfold spec_l1Cur_next.f
  rw [e]
  by_cases hi : i < (c.length : Int)
  · rw [if_pos hi, if_pos h0, if_pos (by omega)]
    exact ⟨_, _, _, rfl, by rw [hv]; exact hr, by omega, by omega⟩
  · rw [if_neg hi, if_neg (by omega)]
    refine ⟨_, _, _, rfl, and255 _ ?_ ?_, by omega, by omega⟩
    · rw [wrap_u64]; omega
    · rw [wrap_u64]; omega
theorem pick_d {c : List Int} (hc : Bys c) (i s n : Int) (h0 : 0 ≤ i) (h1 : i ≤ 100000000000) (hn : n ≤ 1000000000) : Drawn i 2 (spec_l1Cur_pick.f c i s n) (fun v => 0 ≤ v ∧ (v < n ∨ v = 0)) := by
  unfold spec_l1Cur_pick.f
  by_cases c1 : n ≤ 1
  · rw [if_pos c1]
    exact ⟨0, i, s, rfl, ⟨by omega, Or.inr rfl⟩, by omega, by omega⟩
  · rw [if_neg c1]
    obtain ⟨v, i', s', e, hv, hi1, hi2⟩ := next_d hc i s h0 (by omega)
    rw [e]
    simp only [Option.bind_some]
    by_cases c2 : n > 200
    · rw [if_pos c2]
      obtain ⟨v2, i2, s2, e2, hv2, hi3, hi4⟩ := next_d hc i' s' (by omega) (by omega)
      rw [e2]
      simp only [Option.bind_some]
      rw [if_neg (by omega), w64 (x := v * 256) (by omega) (by omega), w64 (x := v * 256 + v2) (by omega) (by omega), Int.tmod_eq_emod_of_nonneg (by omega)]
      exact ⟨_, _, _, rfl, ⟨Int.emod_nonneg _ (by omega), Or.inl (Int.emod_lt_of_pos _ (by omega))⟩, by omega, by omega⟩
    · rw [if_neg c2, if_neg (by omega), Int.tmod_eq_emod_of_nonneg (by omega)]
      exact ⟨_, _, _, rfl, ⟨Int.emod_nonneg _ (by omega), Or.inl (Int.emod_lt_of_pos _ (by omega))⟩, by omega, by omega⟩
theorem of_d {c : List Int} (hc : Bys c) (i s : Int) (l : List ByteArray) (h0 : 0 ≤ i) (h1 : i ≤ 100000000000) (hl : 1 ≤ l.length ∧ l.length ≤ 1000000000) : Drawn i 2 (spec_l1Cur_of.f c i s l) (fun v => v ∈ l) := by
  obtain ⟨v, i', s', e, hv, hi1, hi2⟩ := pick_d hc i s (l.length : Int) h0 h1 (by omega)
  unfold spec_l1Cur_of.f
  rw [e]
  simp only [Option.bind_some]
  rw [if_pos hv.1, if_pos (by omega)]
  refine ⟨_, _, _, rfl, ?_, hi1, hi2⟩
  obtain ⟨n, rfl⟩ := Int.eq_ofNat_of_zero_le hv.1
  have hn : n < l.length := by omega
  rw [rdOf_at _ _ _ hn]
  exact List.getElem_mem hn
theorem one_d {c : List Int} (hc : Bys c) (i s n : Int) (h0 : 0 ≤ i) (h1 : i ≤ 100000000000) (hn : n ≤ 1000000000) : Drawn i 2 (spec_l1Cur_one.f c i s n) (fun _ => True) := by
  obtain ⟨v, i', s', e, hv, hi1, hi2⟩ := pick_d hc i s n h0 h1 hn
  unfold spec_l1Cur_one.f
  rw [e]
  exact ⟨_, _, _, rfl, trivial, hi1, hi2⟩
end Go.Proofs.Ytfajabboibcgpaa.PC
end
section
namespace Go.Proofs.Ytfajabboibcgpaa.PD
open Go.RowKit Go.Proofs.YtfajabboibcgpaaW.PrintWords Go.Proofs.YtfajabboibcgpaaW.PrintLast Go.Proofs.YtfajabboibcgpaaW.PrintMore Go.Proofs.Ytfajabboibcgpaa.PB Go.Proofs.Ytfajabboibcgpaa.PA
set_option linter.unusedVariables false
def dstep (p : Int × Int) (c : UInt8) : Int × Int := ((p.1 + (c.toNat : Int)) % 65521, (p.2 + (p.1 + (c.toNat : Int)) % 65521) % 65521)
def dfold (p : Int × Int) (l : List UInt8) : Int × Int := l.foldl dstep p
def InP (p : Int × Int) : Prop := 0 ≤ p.1 ∧ p.1 < 65521 ∧ 0 ≤ p.2 ∧ p.2 < 65521
theorem dstep_in {p : Int × Int} {c : UInt8} : InP (dstep p c) := by
  unfold InP dstep; refine ⟨?_, ?_, ?_, ?_⟩ <;> simp only <;> omega
theorem dfold_in {p : Int × Int} (h : InP p) (l : List UInt8) : InP (dfold p l) := by
  induction l generalizing p with
  | nil => exact h
  | cons c l ih => exact ih dstep_in
def four (p : Int × Int) : ByteArray := strOfNums [p.2 / 256 % 256, p.2 % 256, p.1 / 256 % 256, p.1 % 256]
def dig (kind : Int) (s : ByteArray) : ByteArray := four (dfold (kind + 1, kind + 1) s.toList)
theorem four_size (p : Int × Int) : (four p).size = 4 := by unfold four; rw [strOfNums_size]; rfl
theorem dig_size (kind : Int) (s : ByteArray) : (dig kind s).size = 4 := four_size _
theorem drop_at (l : List UInt8) (i : Nat) (h : i < l.length) : l.drop i = l.getD i 0 :: l.drop (i + 1) := by
  rw [List.drop_eq_getElem_cons h]; simp [List.getD_eq_getElem?_getD, List.getElem?_eq_getElem h]
theorem step_arith {A B : Int} {c : Nat} (hA : 0 ≤ A ∧ A < 65521 ∧ 0 ≤ B ∧ B < 65521) (hc : c < 256) :
    Int.tmod (wrap64 (A + wrap64 (c : Int))) 65521 = (A + (c : Int)) % 65521 ∧ Int.tmod (wrap64 (B + (A + (c : Int)) % 65521)) 65521 = (B + (A + (c : Int)) % 65521) % 65521 := by
  have h1 : wrap64 (c : Int) = c := w64 (by omega) (by omega)
  have h2 : wrap64 (A + c) = A + c := w64 (by omega) (by omega)
  have h3 : wrap64 (B + (A + (c : Int)) % 65521) = B + (A + (c : Int)) % 65521 := w64 (by omega) (by omega)
  rw [h1, h2, h3, Int.tmod_eq_emod_of_nonneg (by omega), Int.tmod_eq_emod_of_nonneg (by omega)]
  exact ⟨rfl, rfl⟩
theorem feed_spec (s : ByteArray) (hs : s.size ≤ 1000000000000) (L : Int) (hL : 0 ≤ L ∧ L ≤ 1000000000000) : ∀ (d i : Nat) (A B : Int), i + d = s.size → InP (A, B) →
    Ev (fun k => spec_l1Feed.l0 k s (i : Int) A B L) ((dfold (A, B) (s.toList.drop i)).1, (dfold (A, B) (s.toList.drop i)).2, L + s.size) := by
  intro d
  induction d with
  | zero =>
    intro i A B hi hp
    refine Ev.step (f := fun _ => some (A, B, wrap64 (L + (s.size : Int)))) (fun k => ?_) ?_
    · simp only [spec_l1Feed.l0]; rw [if_neg (by omega)]
    · rw [List.drop_eq_nil_of_le (by rw [size_toList]; omega)]
      rw [w64 (by omega) (by omega)]
      exact Ev.now _
  | succ d ih =>
    intro i A B hi hp
    have hlt : i < s.size := by omega
    have hb := bt_get s i hlt
    have hc : (s.toList.getD i 0).toNat < 256 := UInt8.toNat_lt _
    have ha := step_arith (A := A) (B := B) hp hc
    refine Ev.step (f := fun k => spec_l1Feed.l0 k s ((i + 1 : Nat) : Int) (dstep (A, B) (s.toList.getD i 0)).1 (dstep (A, B) (s.toList.getD i 0)).2 L) (fun k => ?_) ?_
    · simp only [spec_l1Feed.l0]; rw [if_pos (by omega), if_pos (by omega), hb, ha.1, ha.2, w64 (x := (i : Int) + 1) (by omega) (by omega)]
      simp only [dstep]
      congr 1
    · rw [drop_at _ _ (by rw [size_toList]; exact hlt)]
      exact ih (i + 1) _ _ (by omega) dstep_in
theorem feed_impl (s : ByteArray) (hs : s.size ≤ 1000000000000) (L : Int) (hL : 0 ≤ L ∧ L ≤ 1000000000000) : ∀ (d i : Nat) (A B : Int), i + d = s.size → InP (A, B) →
    Ev (fun k => impl_Mix_feed.l0 k s (s.size : Int) (i : Int) A B L) ((dfold (A, B) (s.toList.drop i)).1, (dfold (A, B) (s.toList.drop i)).2, L + s.size) := by
  intro d
  induction d with
  | zero =>
    intro i A B hi hp
    refine Ev.step (f := fun _ => some (A, B, wrap64 (L + (s.size : Int)))) (fun k => ?_) ?_
    · simp only [impl_Mix_feed.l0]; rw [if_neg (by omega)]
    · rw [List.drop_eq_nil_of_le (by rw [size_toList]; omega)]
      rw [w64 (by omega) (by omega)]
      exact Ev.now _
  | succ d ih =>
    intro i A B hi hp
    have hlt : i < s.size := by omega
    have hb := bt_get s i hlt
    have hc : (s.toList.getD i 0).toNat < 256 := UInt8.toNat_lt _
    have ha := step_arith (A := A) (B := B) hp hc
    refine Ev.step (f := fun k => impl_Mix_feed.l0 k s (s.size : Int) ((i + 1 : Nat) : Int) (dstep (A, B) (s.toList.getD i 0)).1 (dstep (A, B) (s.toList.getD i 0)).2 L) (fun k => ?_) ?_
    · simp only [impl_Mix_feed.l0]; rw [if_pos (by omega), if_pos (by omega), if_pos (by omega), hb, ha.1, ha.2, w64 (x := (i : Int) + 1) (by omega) (by omega)]
      simp only [dstep]
      congr 1
    · rw [drop_at _ _ (by rw [size_toList]; exact hlt)]
      exact ih (i + 1) _ _ (by omega) dstep_in
def Kd_ (c : Int) : Prop := 97 ≤ c ∧ c ≤ 122
theorem digS (kind : Int) (hk : Kd_ kind) (s : ByteArray) (hs : s.size ≤ 1000000000000) : Ev (fun k => spec_l1Digest.f k kind s) (dig kind s) := by
  obtain ⟨h0, h1⟩ := hk
  have e1 : spec_NewMix.f kind = some (kind + 1, kind + 1, 0, true) := by
    unfold spec_NewMix.f spec_l1Kind.f
    rw [if_pos (by omega)]
    simp only [Option.bind_some, decide_eq_true h1, if_true]
    rw [w64 (x := kind) (by omega) (by omega), w64 (by omega) (by omega), Int.add_comm]
  have hp : InP (kind + 1, kind + 1) := by unfold InP; refine ⟨?_, ?_, ?_, ?_⟩ <;> simp only <;> omega
  obtain ⟨K, h⟩ := feed_spec s hs 0 (by omega) s.size 0 (kind + 1) (kind + 1) (by omega) hp
  refine ⟨K, fun k hk => ?_⟩
  have h' := h k hk
  dsimp only at h'
  rw [show ((0 : Nat) : Int) = 0 from rfl] at h'
  unfold spec_l1Digest.f spec_l1Feed.f spec_l1End.f
  simp only [e1, Option.bind_some]
  rw [h']
  simp only [Option.bind_some, List.drop_zero]
  rfl
theorem digI (kind : Int) (hk : Kd_ kind) (s : ByteArray) (hs : s.size ≤ 1000000000000) : Ev (fun k => impl_digest.f k kind s) (dig kind s) := by
  obtain ⟨h0, h1⟩ := hk
  have e1 : impl_newMix.f kind = some (kind + 1, kind + 1, 0) := by
    unfold impl_newMix.f
    rw [w64 (x := kind) (by omega) (by omega), w64 (by omega) (by omega)]
  have hp : InP (kind + 1, kind + 1) := by unfold InP; refine ⟨?_, ?_, ?_, ?_⟩ <;> simp only <;> omega
  obtain ⟨K, h⟩ := feed_impl s hs 0 (by omega) s.size 0 (kind + 1) (kind + 1) (by omega) hp
  refine ⟨K, fun k hk => ?_⟩
  have h' := h k hk
  dsimp only at h'
  rw [show ((0 : Nat) : Int) = 0 from rfl] at h'
  have hq := dfold_in hp s.toList
  unfold impl_digest.f impl_Mix_feed.f impl_Mix_end.f
  simp only [e1, Option.bind_some]
  rw [h']
  simp only [Option.bind_some, List.drop_zero]
  unfold dig four
  generalize dfold (kind + 1, kind + 1) s.toList = p at hq ⊢
  obtain ⟨q0, q1, q2, q3⟩ := hq
  rw [Int.tdiv_eq_ediv_of_nonneg q2, Int.tdiv_eq_ediv_of_nonneg q0, Int.tmod_eq_emod_of_nonneg q2, Int.tmod_eq_emod_of_nonneg q0, w64 (x := p.2 / 256) (by omega) (by omega), w64 (x := p.1 / 256) (by omega) (by omega)]
  rw [Int.emod_emod_of_dvd p.2 (Int.dvd_refl _), Int.emod_emod_of_dvd p.1 (Int.dvd_refl _)]
def one (n : Int) : ByteArray := strOfNums [n % 256]
theorem one_size (n : Int) : (one n).size = 1 := by unfold one; rw [strOfNums_size]; rfl
theorem oneI (n : Int) : impl_oneByte.f n = some (one n) := rfl
end Go.Proofs.Ytfajabboibcgpaa.PD
end
section
namespace Go.Proofs.Ytfajabboibcgpaa.PK
open Go.RowKit Go.Proofs.YtfajabboibcgpaaW.PrintWords Go.Proofs.YtfajabboibcgpaaW.PrintLast Go.Proofs.YtfajabboibcgpaaW.PrintMore Go.Proofs.Ytfajabboibcgpaa.PB Go.Proofs.Ytfajabboibcgpaa.PD Go.Proofs.Ytfajabboibcgpaa.PA
set_option linter.unusedVariables false
def chainM (s : ByteArray) (i : Nat) : Nat → ByteArray
  | 0 => s
  | n + 1 => chainM (dig 99 (one (i : Int) ++ s)) (i + 1) n
theorem chainM_size (s : ByteArray) (h : s.size = 4) (n : Nat) : ∀ i, (chainM s i n).size = 4 := by
  induction n generalizing s with
  | zero => intro i; exact h
  | succ n ih => intro i; exact ih _ (dig_size _ _) _
theorem kc : Kd_ 99 := ⟨by decide, by decide⟩
theorem app_size (a b : ByteArray) : (a ++ b).size = a.size + b.size := ByteArray.size_append
theorem chainS0 (a b : Nat) (ha : a + b ≤ 1000) : ∀ (n i : Nat) (s : ByteArray), s.size ≤ 1000000 → i + n = a + b → Ev (fun k => spec_l2Chain.l0 k s (a : Int) (b : Int) (i : Int)) (chainM s i n) := by
  intro n
  induction n with
  | zero =>
    intro i s hs hi
    refine Ev.step (f := fun _ => some s) (fun k => ?_) (Ev.now _)
    simp only [spec_l2Chain.l0]
    rw [w64 (by omega) (by omega), if_neg (by omega)]
  | succ n ih =>
    intro i s hs hi
    refine Ev.step (f := fun k => (spec_l1Digest.f k 99 (one (i : Int) ++ s)).bind fun t => spec_l2Chain.l0 k t (a : Int) (b : Int) ((i + 1 : Nat) : Int)) (fun k => ?_) ?_
    · simp only [spec_l2Chain.l0]
      rw [w64 (x := (a : Int) + b) (by omega) (by omega), if_pos (by omega)]
      simp only [Option.bind_some]
      rw [if_pos (by rw [strOfNums_size]; simp only [List.length_cons, List.length_nil]; omega), w64 (x := (i : Int) + 1) (by omega) (by omega)]
      rfl
    · exact ev_bind (digS 99 kc _ (by rw [app_size, one_size]; omega)) (ih (i + 1) _ (by rw [dig_size]; omega) (by omega))
theorem chainS (s : ByteArray) (a b : Nat) (ha : a + b ≤ 1000) (hs : s.size ≤ 1000000) : Ev (fun k => spec_l2Chain.f k s (a : Int) (b : Int)) (chainM s a b) :=
  chainS0 a b ha b a s hs rfl
theorem chainI0 (a b : Nat) (ha : a + b ≤ 1000) : ∀ (n i : Nat) (s : ByteArray), s.size ≤ 1000000 → i + n = a + b → Ev (fun k => impl_chain.l0 k s (a : Int) (b : Int) (i : Int)) (chainM s i n) := by
  intro n
  induction n with
  | zero =>
    intro i s hs hi
    refine Ev.step (f := fun _ => some s) (fun k => ?_) (Ev.now _)
    simp only [impl_chain.l0]
    rw [w64 (by omega) (by omega), if_neg (by omega)]
  | succ n ih =>
    intro i s hs hi
    refine Ev.step (f := fun k => (impl_digest.f k 99 (one (i : Int) ++ s)).bind fun t => impl_chain.l0 k t (a : Int) (b : Int) ((i + 1 : Nat) : Int)) (fun k => ?_) ?_
    · simp only [impl_chain.l0]
      rw [w64 (x := (a : Int) + b) (by omega) (by omega), if_pos (by omega), oneI]
      simp only [Option.bind_some]
      rw [if_pos (by rw [one_size]; omega), w64 (x := (i : Int) + 1) (by omega) (by omega)]
      rfl
    · exact ev_bind (digI 99 kc _ (by rw [app_size, one_size]; omega)) (ih (i + 1) _ (by rw [dig_size]; omega) (by omega))
theorem chainI (s : ByteArray) (a b : Nat) (ha : a + b ≤ 1000) (hs : s.size ≤ 1000000) : Ev (fun k => impl_chain.f k s (a : Int) (b : Int)) (chainM s a b) :=
  chainI0 a b ha b a s hs rfl
def nibs : List UInt8 → List Int
  | [] => []
  | c :: l => (c.toNat : Int) / 16 :: (c.toNat : Int) % 16 :: nibs l
def sm : List Int → Int
  | [] => 0
  | n :: l => (15 - n) + sm l
theorem nibs_length (l : List UInt8) : (nibs l).length = 2 * l.length := by
  induction l with
  | nil => rfl
  | cons c l ih => simp only [nibs, List.length_cons, ih]; omega
theorem nibs_in (l : List UInt8) : ∀ n ∈ nibs l, 0 ≤ n ∧ n ≤ 15 := by
  induction l with
  | nil => intro n h; cases h
  | cons c l ih =>
    have hc : c.toNat < 256 := UInt8.toNat_lt _
    intro n h
    simp only [nibs, List.mem_cons] at h
    rcases h with rfl | rfl | h
    · omega
    · omega
    · exact ih n h
theorem sm_nibs (l : List UInt8) : 0 ≤ sm (nibs l) ∧ sm (nibs l) ≤ 30 * l.length := by
  induction l with
  | nil => exact ⟨by decide, by decide⟩
  | cons c l ih =>
    have hc : c.toNat < 256 := UInt8.toNat_lt _
    simp only [nibs, sm, List.length_cons]
    omega
def checksM (S : Int) : List Int := [S / 256 % 16, S / 16 % 16, S % 16]
def digitsM (s : ByteArray) : List Int := nibs (dig 109 s).toList ++ checksM (sm (nibs (dig 109 s).toList))
theorem digitsM_length (s : ByteArray) : (digitsM s).length = 11 := by
  unfold digitsM
  rw [List.length_append, nibs_length, size_toList, dig_size]
  rfl
theorem digitsM_in (s : ByteArray) : ∀ n ∈ digitsM s, 0 ≤ n ∧ n ≤ 15 := by
  intro n h
  unfold digitsM at h
  rcases List.mem_append.mp h with h | h
  · exact nibs_in _ n h
  · unfold checksM at h
    simp only [List.mem_cons, List.not_mem_nil, or_false] at h
    rcases h with rfl | rfl | rfl <;> omega
theorem rd_at (l : List Int) (i : Nat) (h : i < l.length) : rd l (i : Int) = l[i] := by
  simp [rd, List.getD_eq_getElem?_getD, List.getElem?_eq_getElem h]
theorem rd_digits (s : ByteArray) (i : Nat) (h : i < 11) : 0 ≤ rd (digitsM s) (i : Int) ∧ rd (digitsM s) (i : Int) ≤ 15 := by
  have hl : i < (digitsM s).length := by rw [digitsM_length]; exact h
  rw [rd_at _ _ hl]
  exact digitsM_in s _ (List.getElem_mem hl)
theorem drop_cons {α : Type} (l : List α) (i : Nat) (h : i < l.length) : l.drop i = l[i] :: l.drop (i + 1) := List.drop_eq_getElem_cons h
theorem sumS (out : List Int) (hin : ∀ n ∈ out, 0 ≤ n ∧ n ≤ 15) (hl : out.length ≤ 100) : ∀ (d i : Nat) (S : Int), i + d = out.length → 0 ≤ S → S ≤ 15 * i → Ev (fun k => spec_l2Digits.l1 k out S out (out.length : Int) (i : Int)) (out ++ checksM (S + sm (out.drop i))) := by
  intro d
  induction d with
  | zero =>
    intro i S hi h0 h1
    refine Ev.step (f := fun _ => some (out ++ checksM S)) (fun k => ?_) ?_
    · simp only [spec_l2Digits.l1]
      rw [if_neg (by omega)]
      simp only [Option.bind_some]
      rw [if_pos (by simp only [List.length_cons, List.length_nil]; omega)]
      have hb : ∀ x : Int, 0 ≤ x → x < 4294967296 → Go.bits .and .i64 x 15 = x % 16 := fun x hx0 hx1 => bits_mask .i64 63 (by decide) (fun n hn0 hn1 => by rw [i64_w]; exact w64 (by omega) (by omega)) 4 (by decide) x hx0 (by omega)
      rw [hb _ (by omega) (by omega), hb _ (by omega) (by omega), hb _ (by omega) (by omega)]
      rfl
    · rw [List.drop_eq_nil_of_le (by omega)]
      simp only [sm, Int.add_zero]
      exact Ev.now _
  | succ d ih =>
    intro i S hi h0 h1
    have hlt : i < out.length := by omega
    have hr := rd_at out i hlt
    have hb := hin _ (List.getElem_mem hlt)
    refine Ev.step (f := fun k => spec_l2Digits.l1 k out (S + (15 - out[i])) out (out.length : Int) ((i + 1 : Nat) : Int)) (fun k => ?_) ?_
    · simp only [spec_l2Digits.l1]
      rw [if_pos (by omega), if_pos (by omega), if_pos (by omega), hr, w64 (x := 15 - out[i]) (by omega) (by omega), w64 (x := S + (15 - out[i])) (by omega) (by omega), w64 (x := (i : Int) + 1) (by omega) (by omega)]
      rfl
    · have := ih (i + 1) (S + (15 - out[i])) (by omega) (by omega) (by omega)
      rw [drop_cons out i hlt]
      simp only [sm]
      rw [← Int.add_assoc]
      exact this
theorem nibsS (t : ByteArray) (ht : t.size = 4) : ∀ (d i : Nat) (out : List Int), i + d = t.size → out = nibs (t.toList.take i) → Ev (fun k => spec_l2Digits.l0 k out t 0 (i : Int)) (nibs t.toList ++ checksM (sm (nibs t.toList))) := by
  have hlen : t.toList.length = 4 := by rw [size_toList]; exact ht
  intro d
  induction d with
  | zero =>
    intro i out hi ho
    have ho' : out = nibs t.toList := by rw [ho, List.take_of_length_le (by omega)]
    subst ho'
    refine Ev.step (f := fun k => spec_l2Digits.l1 k (nibs t.toList) 0 (nibs t.toList) ((nibs t.toList).length : Int) ((0 : Nat) : Int)) (fun k => ?_) ?_
    · simp only [spec_l2Digits.l0]
      rw [if_neg (by omega)]
      rfl
    · have := sumS (nibs t.toList) (nibs_in _) (by rw [nibs_length]; omega) (nibs t.toList).length 0 0 (by omega) (by omega) (by omega)
      simpa using this
  | succ d ih =>
    intro i out hi ho
    have hlt : i < t.size := by omega
    have hb := bt_get t i hlt
    have hlt' : i < t.toList.length := by omega
    have hg : t.toList.getD i 0 = t.toList[i] := by simp [List.getD_eq_getElem?_getD, List.getElem?_eq_getElem hlt']
    rw [hg] at hb
    have hc : (t.toList[i]).toNat < 256 := UInt8.toNat_lt _
    have hol : out.length = 2 * i := by rw [ho, nibs_length, List.length_take]; omega
    refine Ev.step (f := fun k => spec_l2Digits.l0 k (out ++ [((t.toList[i]).toNat : Int) / 16, ((t.toList[i]).toNat : Int) % 16]) t 0 ((i + 1 : Nat) : Int)) (fun k => ?_) ?_
    · simp only [spec_l2Digits.l0]
      rw [if_pos (by omega), if_pos (by omega), hb, u8_and15 (x := ((t.toList[i]).toNat : Int)) (by omega) (by omega), w64 (x := ((t.toList[i]).toNat : Int) / 16) (by omega) (by omega), w64 (x := ((t.toList[i]).toNat : Int) % 16) (by omega) (by omega), w64 (x := (i : Int) + 1) (by omega) (by omega)]
      simp only [Option.bind_some]
      rw [if_pos (by simp only [List.length_cons, List.length_nil]; omega)]
      rfl
    · refine ih (i + 1) _ (by omega) ?_
      rw [ho, List.take_succ_eq_append_getElem hlt']
      generalize List.take i t.toList = l
      induction l with
      | nil => rfl
      | cons c l ih2 => simp only [nibs, List.cons_append, ih2]
theorem kmm : Kd_ 109 := ⟨by decide, by decide⟩
theorem digitsS (s : ByteArray) (hs : s.size ≤ 1000000) : Ev (fun k => spec_l2Digits.f k s) (digitsM s) := by
  refine ev_bind (f := fun k t => spec_l2Digits.l0 k [] t 0 0) (digS 109 kmm s (by omega)) ?_
  exact nibsS (dig 109 s) (dig_size _ _) (dig 109 s).size 0 [] (by omega) rfl
theorem rd_bytes (t : ByteArray) (i : Nat) (h : i < t.toList.length) : rd (bytesOf t) (i : Int) = ((t.toList[i]).toNat : Int) := by
  rw [rd_bytesOf, bt_get t i (by rw [size_toList] at h; exact h)]
  simp [List.getD_eq_getElem?_getD, List.getElem?_eq_getElem h]
theorem bytesOf_len (t : ByteArray) : (bytesOf t).length = t.toList.length := by rw [bytesOf_length, size_toList]
theorem nibs_app (l : List UInt8) (c : UInt8) : nibs (l ++ [c]) = nibs l ++ [(c.toNat : Int) / 16, (c.toNat : Int) % 16] := by
  induction l with
  | nil => rfl
  | cons d l ih => simp only [nibs, List.cons_append, ih]
theorem sm_app (a b : List Int) : sm (a ++ b) = sm a + sm b := by
  induction a with
  | nil => simp [sm]
  | cons n a ih => simp only [sm, List.cons_append, ih]; omega
theorem nibsI (t : ByteArray) (ht : t.size = 4) : ∀ (d i : Nat) (out : List Int) (S : Int), i + d = t.toList.length → out = nibs (t.toList.take i) → S = sm out → Ev (fun k => impl_digits.l0 k out S (bytesOf t) ((bytesOf t).length : Int) (i : Int)) (nibs t.toList ++ checksM (sm (nibs t.toList))) := by
  have hlen : t.toList.length = 4 := by rw [size_toList]; exact ht
  intro d
  induction d with
  | zero =>
    intro i out S hi ho hS
    have ho' : out = nibs t.toList := by rw [ho, List.take_of_length_le (by omega)]
    subst ho'
    have hb := sm_nibs t.toList
    rw [hlen] at hb
    refine Ev.step (f := fun k => some (nibs t.toList ++ checksM (sm (nibs t.toList)))) (fun k => ?_) (Ev.now _)
    simp only [impl_digits.l0]
    rw [if_neg (by rw [bytesOf_len]; omega)]
    simp only [Option.bind_some]
    rw [if_pos (by rw [nibs_length]; simp only [List.length_cons, List.length_nil]; omega)]
    rw [hS, Int.tdiv_eq_ediv_of_nonneg hb.1, Int.tdiv_eq_ediv_of_nonneg hb.1, w64 (x := sm (nibs t.toList) / 256) (by omega) (by omega), w64 (x := sm (nibs t.toList) / 16) (by omega) (by omega), Int.tmod_eq_emod_of_nonneg hb.1, Int.tmod_eq_emod_of_nonneg (by omega)]
    unfold checksM
    rw [show sm (nibs t.toList) / 256 % 16 = sm (nibs t.toList) / 256 from by omega]
  | succ d ih =>
    intro i out S hi ho hS
    have hlt' : i < t.toList.length := by omega
    have hb := rd_bytes t i hlt'
    have hc : (t.toList[i]).toNat < 256 := UInt8.toNat_lt _
    have hol : out.length = 2 * i := by rw [ho, nibs_length, List.length_take]; omega
    have hSb : 0 ≤ S ∧ S ≤ 30 * i := by
      have := sm_nibs (t.toList.take i)
      rw [← ho, ← hS, List.length_take] at this
      omega
    refine Ev.step (f := fun k => impl_digits.l0 k (out ++ [((t.toList[i]).toNat : Int) / 16, ((t.toList[i]).toNat : Int) % 16]) (S + (30 - ((t.toList[i]).toNat : Int) / 16 - ((t.toList[i]).toNat : Int) % 16)) (bytesOf t) ((bytesOf t).length : Int) ((i + 1 : Nat) : Int)) (fun k => ?_) ?_
    · simp only [impl_digits.l0]
      have hbl := bytesOf_len t
      rw [if_pos (by omega), if_pos (by omega), if_pos (by omega), hb, Int.tdiv_eq_ediv_of_nonneg (by omega), Int.tmod_eq_emod_of_nonneg (by omega), w64 (x := ((t.toList[i]).toNat : Int) % 16) (by omega) (by omega), w64 (x := (i : Int) + 1) (by omega) (by omega)]
      rw [show ((t.toList[i]).toNat : Int) / 16 % 256 = ((t.toList[i]).toNat : Int) / 16 from by omega]
      rw [w64 (x := 30 - ((t.toList[i]).toNat : Int) / 16 - ((t.toList[i]).toNat : Int) % 16) (by omega) (by omega), w64 (x := S + (30 - ((t.toList[i]).toNat : Int) / 16 - ((t.toList[i]).toNat : Int) % 16)) (by omega) (by omega)]
      simp only [Option.bind_some]
      rw [if_pos (by simp only [List.length_cons, List.length_nil]; omega)]
      rfl
    · refine ih (i + 1) _ _ (by omega) ?_ ?_
      · rw [ho, List.take_succ_eq_append_getElem hlt', nibs_app]
      · rw [hS, sm_app]; simp only [sm]; omega
theorem digitsI (s : ByteArray) (hs : s.size ≤ 1000000) : Ev (fun k => impl_digits.f k s) (digitsM s) := by
  refine ev_bind (f := fun k t178 => if t178.size ≤ 9223372036854775807 then ((some (bytesOf t178 : List Int)).bind fun y179 => (impl_digits.l0 k ([] : List Int) 0 y179 (y179.length : Int) 0)) else (none)) (digI 109 kmm s (by omega)) ?_
  refine ev_pos (by rw [dig_size]; omega) ?_
  exact nibsI (dig 109 s) (dig_size _ _) (dig 109 s).toList.length 0 [] 0 (by omega) rfl rfl
end Go.Proofs.Ytfajabboibcgpaa.PK
end
section
namespace Go.Proofs.Ytfajabboibcgpaa.PS
open Go.RowKit Go.Proofs.YtfajabboibcgpaaW.PrintWords Go.Proofs.YtfajabboibcgpaaW.PrintLast Go.Proofs.YtfajabboibcgpaaW.PrintMore Go.Proofs.Ytfajabboibcgpaa.PB Go.Proofs.Ytfajabboibcgpaa.PD Go.Proofs.Ytfajabboibcgpaa.PK Go.Proofs.Ytfajabboibcgpaa.PL Go.Proofs.Ytfajabboibcgpaa.PA
set_option linter.unusedVariables false
theorem chainS' (s : ByteArray) (a b : Int) (h0 : 0 ≤ a) (h1 : 0 ≤ b) (h2 : a + b ≤ 1000) (hs : s.size ≤ 1000000) : Ev (fun k => spec_l2Chain.f k s a b) (chainM s a.toNat b.toNat) := by
  obtain ⟨m, rfl⟩ := Int.eq_ofNat_of_zero_le h0
  obtain ⟨n, rfl⟩ := Int.eq_ofNat_of_zero_le h1
  exact chainS s m n (by omega) hs
theorem chainI' (s : ByteArray) (a b : Int) (h0 : 0 ≤ a) (h1 : 0 ≤ b) (h2 : a + b ≤ 1000) (hs : s.size ≤ 1000000) : Ev (fun k => impl_chain.f k s a b) (chainM s a.toNat b.toNat) := by
  obtain ⟨m, rfl⟩ := Int.eq_ofNat_of_zero_le h0
  obtain ⟨n, rfl⟩ := Int.eq_ofNat_of_zero_le h1
  exact chainI s m n (by omega) hs
theorem kk : Kd_ 107 := ⟨by decide, by decide⟩
theorem kp : Kd_ 112 := ⟨by decide, by decide⟩
def keyM (seed : ByteArray) (i : Nat) : ByteArray := dig 107 (one (i : Int) ++ seed)
theorem keyM_size (seed : ByteArray) (i : Nat) : (keyM seed i).size = 4 := dig_size _ _
theorem keyS (seed : ByteArray) (hs : seed.size ≤ 1000000) (i : Nat) : Ev (fun k => spec_l2Key.f k seed (i : Int)) (keyM seed i) := by
  refine Ev.congr (f := fun k => (spec_l1Digest.f k 107 (one (i : Int) ++ seed)).bind fun t => some t) (fun k => ?_) (ev_bind (digS 107 kk _ (by rw [app_size, one_size]; omega)) (Ev.now _))
  simp only [spec_l2Key.f, Option.bind_some]
  rw [if_pos (by rw [strOfNums_size]; simp only [List.length_cons, List.length_nil]; omega)]
  rfl
def signAt (seed text : ByteArray) (i : Nat) : ByteArray := chainM (keyM seed i) 0 (rd (digitsM text) (i : Int)).toNat
def signM (seed text : ByteArray) : List ByteArray := (List.range 11).map (signAt seed text)
theorem signM_length (seed text : ByteArray) : (signM seed text).length = 11 := by simp [signM]
theorem signS (seed text : ByteArray) (hs : seed.size ≤ 1000000) (ht : text.size ≤ 1000000) : Ev (fun k => spec_l2Sign.f k seed text) (signM seed text) := by
  have hlen := digitsM_length text
  have key : ∀ (d i : Nat), i + d = 11 → Ev (fun k => spec_l2Sign.l0 k seed ((List.range i).map (signAt seed text)) (digitsM text) ((digitsM text).length : Int) (i : Int)) (signM seed text) := by
    intro d
    induction d with
    | zero =>
      intro i hi
      refine Ev.step (f := fun _ => some (signM seed text)) (fun k => ?_) (Ev.now _)
      simp only [spec_l2Sign.l0]
      rw [if_neg (by omega), show i = 11 by omega]
      rfl
    | succ d ih =>
      intro i hi
      have hr := rd_digits text i (by omega)
      refine Ev.step (f := fun k => (spec_l2Key.f k seed (i : Int)).bind fun t145 => (spec_l2Chain.f k t145 0 (rd (digitsM text) (i : Int))).bind fun t146 => spec_l2Sign.l0 k seed ((List.range i).map (signAt seed text) ++ [t146]) (digitsM text) ((digitsM text).length : Int) ((i + 1 : Nat) : Int)) (fun k => ?_) ?_
      · simp only [spec_l2Sign.l0]
        rw [if_pos (by omega), if_pos (by omega), if_pos (by omega), w64 (x := (i : Int) + 1) (by omega) (by omega)]
        have hc : ((List.range i).map (signAt seed text)).length < 8796093022208 := by simp only [List.length_map, List.length_range]; omega
        simp only [if_pos hc]
        rfl
      · refine ev_bind (keyS seed hs i) (ev_bind (chainS' _ 0 _ (by omega) hr.1 (by omega) (by rw [keyM_size]; omega)) ?_)
        have e : (List.range i).map (signAt seed text) ++ [chainM (keyM seed i) (0 : Int).toNat (rd (digitsM text) (i : Int)).toNat] = (List.range (i + 1)).map (signAt seed text) := by
          rw [List.range_succ, List.map_append]; rfl
        rw [e]
        exact ih (i + 1) (by omega)
  exact ev_bind (digitsS text ht) (key 11 0 (by omega))
def partsM (seed : ByteArray) : List ByteArray := (List.range 11).map (keyM seed)
theorem partsI (seed : ByteArray) (hs : seed.size ≤ 1000000) : Ev (fun k => impl_parts.f k seed) (partsM seed) := by
  have key : ∀ (d i : Nat), i + d = 11 → Ev (fun k => impl_parts.l0 k seed ((List.range i).map (keyM seed)) (i : Int)) (partsM seed) := by
    intro d
    induction d with
    | zero =>
      intro i hi
      refine Ev.step (f := fun _ => some (partsM seed)) (fun k => ?_) (Ev.now _)
      simp only [impl_parts.l0]
      rw [if_neg (by omega), show i = 11 by omega]
      rfl
    | succ d ih =>
      intro i hi
      refine Ev.step (f := fun k => (impl_digest.f k 107 (one (i : Int) ++ seed)).bind fun t => impl_parts.l0 k seed ((List.range i).map (keyM seed) ++ [t]) ((i + 1 : Nat) : Int)) (fun k => ?_) ?_
      · simp only [impl_parts.l0]
        rw [if_pos (by omega), oneI]
        simp only [Option.bind_some]
        rw [if_pos (by rw [one_size]; omega), w64 (x := (i : Int) + 1) (by omega) (by omega)]
        congr 1
        funext t
        rw [if_pos (by simp only [List.length_map, List.length_range]; omega)]
        rfl
      · refine ev_bind (digI 107 kk _ (by rw [app_size, one_size]; omega)) ?_
        have e : (List.range i).map (keyM seed) ++ [dig 107 (one (i : Int) ++ seed)] = (List.range (i + 1)).map (keyM seed) := by
          rw [List.range_succ, List.map_append]; rfl
        rw [e]
        exact ih (i + 1) (by omega)
  exact key 11 0 (by omega)
theorem signI (seed text : ByteArray) (hs : seed.size ≤ 1000000) (ht : text.size ≤ 1000000) : Ev (fun k => impl_sign.f k seed text) (signM seed text) := by
  have hlen := digitsM_length text
  let mid := fun (i : Nat) => (List.range 11).map fun j => if j < i then signAt seed text j else keyM seed j
  have hmid : ∀ i, (mid i).length = 11 := fun i => by simp [mid]
  have hat : ∀ i j (h : j < 11), (mid i)[j]'(by rw [hmid]; exact h) = if j < i then signAt seed text j else keyM seed j := fun i j h => by simp [mid]
  have key : ∀ (d i : Nat), i + d = 11 → Ev (fun k => impl_sign.l0 k (mid i) (digitsM text) ((digitsM text).length : Int) (i : Int)) (signM seed text) := by
    intro d
    induction d with
    | zero =>
      intro i hi
      refine Ev.step (f := fun _ => some (signM seed text)) (fun k => ?_) (Ev.now _)
      simp only [impl_sign.l0]
      rw [if_neg (by omega), show i = 11 by omega]
      refine congrArg some ?_
      apply List.ext_getElem
      · rw [hmid, signM_length]
      · intro j h1 h2
        rw [hmid] at h1
        rw [hat 11 j h1, if_pos h1]
        simp [signM]
    | succ d ih =>
      intro i hi
      have hr := rd_digits text i (by omega)
      have hm := hmid i
      refine Ev.step (f := fun k => (impl_chain.f k (keyM seed i) 0 (rd (digitsM text) (i : Int))).bind fun t => impl_sign.l0 k ((mid i).set i t) (digitsM text) ((digitsM text).length : Int) ((i + 1 : Nat) : Int)) (fun k => ?_) ?_
      · simp only [impl_sign.l0]
        rw [if_pos (by omega), if_pos (by omega), if_pos (by omega), if_pos (by omega), rdOf_at _ _ i (by omega), hat i i (by omega), if_neg (by omega), w64 (x := (i : Int) + 1) (by omega) (by omega)]
        rfl
      · refine ev_bind (chainI' _ 0 _ (by omega) hr.1 (by omega) (by rw [keyM_size]; omega)) ?_
        have e : (mid i).set i (chainM (keyM seed i) (0 : Int).toNat (rd (digitsM text) (i : Int)).toNat) = mid (i + 1) := by
          apply List.ext_getElem
          · rw [List.length_set, hmid, hmid]
          · intro j h1 h2
            rw [hmid] at h2
            rw [List.getElem_set, hat (i + 1) j h2]
            by_cases hj : i = j
            · subst hj
              rw [if_pos rfl, if_pos (by omega)]
              rfl
            · rw [if_neg hj, hat i j h2]
              by_cases hj2 : j < i
              · rw [if_pos hj2, if_pos (by omega)]
              · rw [if_neg hj2, if_neg (by omega)]
        rw [e]
        exact ih (i + 1) (by omega)
  refine ev_bind (partsI seed hs) (ev_bind (digitsI text ht) ?_)
  have e : partsM seed = mid 0 := by simp [partsM, mid]
  rw [e]
  exact key 11 0 (by omega)
def fromAt (text : ByteArray) (l : List ByteArray) (i : Nat) : ByteArray := chainM (l.getD i ⟨#[]⟩) (rd (digitsM text) (i : Int)).toNat (15 - rd (digitsM text) (i : Int)).toNat
def joined : List ByteArray → ByteArray → ByteArray
  | [], s => s
  | t :: l, s => joined l (s ++ t)
def fromM (text : ByteArray) (l : List ByteArray) : ByteArray := dig 112 (joined ((List.range 11).map (fromAt text l)) ⟨#[]⟩)
theorem joined_snoc (l : List ByteArray) (t s : ByteArray) : joined (l ++ [t]) s = joined l s ++ t := by
  induction l generalizing s with
  | nil => rfl
  | cons a l ih => exact ih (s ++ a)
def Good11 (l : List ByteArray) : Prop := l.length = 11 ∧ ∀ s ∈ l, s.size = 4
theorem getD_good {l : List ByteArray} (h : Good11 l) (i : Nat) (hi : i < 11) : (l.getD i ⟨#[]⟩).size = 4 := by
  have hl : i < l.length := by rw [h.1]; exact hi
  simp only [List.getD_eq_getElem?_getD, List.getElem?_eq_getElem hl, Option.getD_some]
  exact h.2 _ (List.getElem_mem hl)
theorem joined_size (text : ByteArray) (l : List ByteArray) (h : Good11 l) : ∀ i, i ≤ 11 → (joined ((List.range i).map (fromAt text l)) ⟨#[]⟩).size = 4 * i := by
  intro i
  induction i with
  | zero => intro _; rfl
  | succ i ih =>
    intro hi
    rw [List.range_succ, List.map_append, List.map_cons, List.map_nil, joined_snoc, app_size, ih (by omega)]
    unfold fromAt
    rw [chainM_size _ (getD_good h i (by omega))]
    omega
theorem rdOf_getD (l : List ByteArray) (i : Nat) : rdOf ByteArray.empty l (i : Int) = l.getD i ⟨#[]⟩ := by
  simp only [rdOf, Int.toNat_natCast]; rfl
theorem fromS (text : ByteArray) (l : List ByteArray) (ht : text.size ≤ 1000000) (h : Good11 l) : Ev (fun k => spec_l2From.f k text l) (fromM text l) := by
  have hlen := digitsM_length text
  have key : ∀ (d i : Nat), i + d = 11 → Ev (fun k => spec_l2From.l0 k l (joined ((List.range i).map (fromAt text l)) ⟨#[]⟩) (digitsM text) ((digitsM text).length : Int) (i : Int)) (fromM text l) := by
    intro d
    induction d with
    | zero =>
      intro i hi
      have hj := joined_size text l h 11 (by omega)
      refine Ev.step (f := fun k => (spec_l1Digest.f k 112 (joined ((List.range 11).map (fromAt text l)) ⟨#[]⟩)).bind fun t => some t) (fun k => ?_) (ev_bind (digS 112 kp _ (by omega)) (Ev.now _))
      simp only [spec_l2From.l0]
      rw [if_neg (by omega), show i = 11 by omega]
    | succ d ih =>
      intro i hi
      have hr := rd_digits text i (by omega)
      have hj := joined_size text l h i (by omega)
      have hl := h.1
      refine Ev.step (f := fun k => (spec_l2Chain.f k (l.getD i ⟨#[]⟩) (rd (digitsM text) (i : Int)) (15 - rd (digitsM text) (i : Int))).bind fun t => if (joined ((List.range i).map (fromAt text l)) ⟨#[]⟩).size + t.size ≤ 9223372036854775807 then spec_l2From.l0 k l (joined ((List.range i).map (fromAt text l)) ⟨#[]⟩ ++ t) (digitsM text) ((digitsM text).length : Int) ((i + 1 : Nat) : Int) else none) (fun k => ?_) ?_
      · simp only [spec_l2From.l0]
        rw [if_pos (by omega), if_pos (by omega), if_pos (by omega), if_pos (by omega), rdOf_getD, w64 (x := 15 - rd (digitsM text) (i : Int)) (by omega) (by omega), w64 (x := (i : Int) + 1) (by omega) (by omega)]
        rfl
      · refine ev_bind (chainS' _ _ _ hr.1 (by omega) (by omega) (by rw [getD_good h i (by omega)]; omega)) (ev_pos (by rw [chainM_size _ (getD_good h i (by omega))]; omega) ?_)
        have e : joined ((List.range i).map (fromAt text l)) ⟨#[]⟩ ++ chainM (l.getD i ⟨#[]⟩) (rd (digitsM text) (i : Int)).toNat (15 - rd (digitsM text) (i : Int)).toNat = joined ((List.range (i + 1)).map (fromAt text l)) ⟨#[]⟩ := by
          rw [List.range_succ, List.map_append, List.map_cons, List.map_nil, joined_snoc]; rfl
        rw [e]
        exact ih (i + 1) (by omega)
  exact ev_bind (digitsS text ht) (key 11 0 (by omega))
theorem fromI (text : ByteArray) (l : List ByteArray) (ht : text.size ≤ 1000000) (h : Good11 l) : Ev (fun k => impl_publicFrom.f k text l) (fromM text l) := by
  have hlen := digitsM_length text
  have key : ∀ (d i : Nat), i + d = 11 → Ev (fun k => impl_publicFrom.l0 k l (joined ((List.range i).map (fromAt text l)) ⟨#[]⟩) (digitsM text) ((digitsM text).length : Int) (i : Int)) (fromM text l) := by
    intro d
    induction d with
    | zero =>
      intro i hi
      have hj := joined_size text l h 11 (by omega)
      refine Ev.step (f := fun k => (impl_digest.f k 112 (joined ((List.range 11).map (fromAt text l)) ⟨#[]⟩)).bind fun t => some t) (fun k => ?_) (ev_bind (digI 112 kp _ (by omega)) (Ev.now _))
      simp only [impl_publicFrom.l0]
      rw [if_neg (by omega), show i = 11 by omega]
    | succ d ih =>
      intro i hi
      have hr := rd_digits text i (by omega)
      have hj := joined_size text l h i (by omega)
      have hl := h.1
      refine Ev.step (f := fun k => (impl_chain.f k (l.getD i ⟨#[]⟩) (rd (digitsM text) (i : Int)) (15 - rd (digitsM text) (i : Int))).bind fun t => if (joined ((List.range i).map (fromAt text l)) ⟨#[]⟩).size + t.size ≤ 9223372036854775807 then impl_publicFrom.l0 k l (joined ((List.range i).map (fromAt text l)) ⟨#[]⟩ ++ t) (digitsM text) ((digitsM text).length : Int) ((i + 1 : Nat) : Int) else none) (fun k => ?_) ?_
      · simp only [impl_publicFrom.l0]
        rw [if_pos (by omega), if_pos (by omega), if_pos (by omega), if_pos (by omega), rdOf_getD, w64 (x := 15 - rd (digitsM text) (i : Int)) (by omega) (by omega), w64 (x := (i : Int) + 1) (by omega) (by omega)]
        rfl
      · refine ev_bind (chainI' _ _ _ hr.1 (by omega) (by omega) (by rw [getD_good h i (by omega)]; omega)) (ev_pos (by rw [chainM_size _ (getD_good h i (by omega))]; omega) ?_)
        have e : joined ((List.range i).map (fromAt text l)) ⟨#[]⟩ ++ chainM (l.getD i ⟨#[]⟩) (rd (digitsM text) (i : Int)).toNat (15 - rd (digitsM text) (i : Int)).toNat = joined ((List.range (i + 1)).map (fromAt text l)) ⟨#[]⟩ := by
          rw [List.range_succ, List.map_append, List.map_cons, List.map_nil, joined_snoc]; rfl
        rw [e]
        exact ih (i + 1) (by omega)
  exact ev_bind (digitsI text ht) (key 11 0 (by omega))
end Go.Proofs.Ytfajabboibcgpaa.PS
end
section
namespace Go.Proofs.Ytfajabboibcgpaa.PT
open Go.RowKit Go.Proofs.YtfajabboibcgpaaW.PrintWords Go.Proofs.YtfajabboibcgpaaW.PrintLast Go.Proofs.YtfajabboibcgpaaW.PrintMore Go.Proofs.Ytfajabboibcgpaa.PB Go.Proofs.Ytfajabboibcgpaa.PD Go.Proofs.Ytfajabboibcgpaa.PK Go.Proofs.Ytfajabboibcgpaa.PL Go.Proofs.Ytfajabboibcgpaa.PS Go.Proofs.Ytfajabboibcgpaa.PA
set_option linter.unusedVariables false
theorem inS (a b c : Int) : spec_l1In.f a b c = some (decide (b ≤ a ∧ a ≤ c)) := by
  unfold spec_l1In.f
  by_cases h : a ≥ b
  · rw [if_pos h]; simp [show b ≤ a from h]
  · rw [if_neg h]; simp [show ¬ b ≤ a from h]
theorem inI (a b c : Int) : impl_within.f a b c = some (decide (b ≤ a ∧ a ≤ c)) := by
  unfold impl_within.f
  by_cases h : a ≥ b
  · rw [if_pos h]; simp [show b ≤ a from h]
  · rw [if_neg h]; simp [show ¬ b ≤ a from h]
theorem seedS (a : ByteArray) : spec_l2Seed.f a = some (decide (1 ≤ (a.size : Int) ∧ (a.size : Int) ≤ 16)) := by
  unfold spec_l2Seed.f; rw [inS]; rfl
theorem seedI (a : ByteArray) (m : Int) : impl_isSeed.f a m = some (decide (1 ≤ (a.size : Int) ∧ (a.size : Int) ≤ m)) := by
  unfold impl_isSeed.f; rw [inI]; rfl
theorem longS (a : ByteArray) : spec_l2Long.f a = some (decide ((a.size : Int) ≤ 200)) := rfl
end Go.Proofs.Ytfajabboibcgpaa.PT
end
section
namespace Go.Proofs.Ytfajabboibcgpaa.PU
open Go.RowKit Go.Proofs.YtfajabboibcgpaaW.PrintWords Go.Proofs.YtfajabboibcgpaaW.PrintLast Go.Proofs.YtfajabboibcgpaaW.PrintMore Go.Proofs.Ytfajabboibcgpaa.PB Go.Proofs.Ytfajabboibcgpaa.PD Go.Proofs.Ytfajabboibcgpaa.PK Go.Proofs.Ytfajabboibcgpaa.PL Go.Proofs.Ytfajabboibcgpaa.PS Go.Proofs.Ytfajabboibcgpaa.PT Go.Proofs.Ytfajabboibcgpaa.PA
set_option linter.unusedVariables false
theorem idx_any {α : Type} (l : List α) (rf : List α → Int → α) (hrf : ∀ i (h : i < l.length), rf l (i : Int) = l[i]) (L0 : Nat → List α → Int → Int → Option Int) (cl : Nat → α → Option Bool) (p : α → Bool)
    (hstep : ∀ k n i, L0 (k + 1) l n i = if i < n then (if 0 ≤ i then (if i < (l.length : Int) then ((cl k (rf l i)).bind fun t => if t = true then some i else L0 k l n (wrap64 (i + 1))) else none) else none) else some (-1))
    (hp : ∀ x ∈ l, Ev (fun k => cl k x) (p x)) (hl : l.length ≤ 4000000000000000000) : ∃ r, Ev (fun k => L0 k l (l.length : Int) 0) r ∧ decide (r ≥ 0) = l.any p := by
  have key : ∀ (d i : Nat), i + d = l.length → ∃ r, Ev (fun k => L0 k l (l.length : Int) (i : Int)) r ∧ decide (r ≥ 0) = (l.drop i).any p := by
    intro d
    induction d with
    | zero =>
      intro i hi
      refine ⟨-1, Ev.step (f := fun _ => some (-1)) (fun k => ?_) (Ev.now _), ?_⟩
      · rw [hstep, if_neg (by omega)]
      · rw [List.drop_eq_nil_of_le (by omega)]; rfl
    | succ d ih =>
      intro i hi
      have hlt : i < l.length := by omega
      have hpx := hp _ (List.getElem_mem hlt)
      rw [List.drop_eq_getElem_cons hlt, List.any_cons]
      have st : ∀ k, L0 (k + 1) l (l.length : Int) (i : Int) = (cl k l[i]).bind fun t => if t = true then some (i : Int) else L0 k l (l.length : Int) ((i + 1 : Nat) : Int) := by
        intro k
        rw [hstep, if_pos (by omega), if_pos (by omega), if_pos (by omega), hrf i hlt, w64 (x := (i : Int) + 1) (by omega) (by omega)]
        rfl
      cases hb : p l[i] with
      | true =>
        rw [hb] at hpx
        refine ⟨(i : Int), Ev.step (f := fun k => (cl k l[i]).bind fun t => if t = true then some (i : Int) else L0 k l (l.length : Int) ((i + 1 : Nat) : Int)) st (ev_bind hpx (ev_pos rfl (Ev.now _))), ?_⟩
        simp only [Bool.true_or]
        exact decide_eq_true (by omega)
      | false =>
        rw [hb] at hpx
        obtain ⟨r, hr, e⟩ := ih (i + 1) (by omega)
        refine ⟨r, Ev.step (f := fun k => (cl k l[i]).bind fun t => if t = true then some (i : Int) else L0 k l (l.length : Int) ((i + 1 : Nat) : Int)) st (ev_bind hpx (ev_neg (by simp) hr)), ?_⟩
        rw [Bool.false_or]; exact e
  obtain ⟨r, hr, e⟩ := key l.length 0 (by omega)
  exact ⟨r, hr, by rw [e, List.drop_zero]⟩
def all4 (l : List ByteArray) : Bool := l.all fun s => decide (s.size = 4)
theorem all4_iff (l : List ByteArray) : all4 l = true ↔ ∀ s ∈ l, s.size = 4 := by simp [all4]
theorem isDigI (s : ByteArray) : impl_isDigest.f s = some (decide (s.size = 4)) := by
  unfold impl_isDigest.f
  refine congrArg some ?_
  by_cases h : s.size = 4
  · rw [decide_eq_true h, h]; rfl
  · rw [decide_eq_false h]; exact beq_eq_false_iff_ne.mpr (by omega)
theorem any_not_all4 (l : List ByteArray) : (l.any fun s => !decide (s.size = 4)) = !all4 l := by
  induction l with
  | nil => rfl
  | cons a l ih => simp only [List.any_cons, all4, List.all_cons, Bool.not_and]; rw [ih]; rfl
theorem areDigI (l : List ByteArray) (m : Int) (hl : l.length ≤ 4000000000000000000) : Ev (fun k => impl_areDigests.f k l m) (decide ((l.length : Int) = m) && all4 l) := by
  unfold impl_areDigests.f
  by_cases h : (l.length : Int) = m
  · refine ev_pos h ?_
    obtain ⟨r, hr, e⟩ := idx_any l (fun l i => rdOf ByteArray.empty l i) (fun i h => rdOf_at _ l i h) slices_IndexFunc_impl_areDigests_1.l0 (fun _ s => impl_areDigests_1.f s) (fun s => !decide (s.size = 4)) (fun k n i => rfl) (fun x _ => ev_of_eq (by unfold impl_areDigests_1.f; rw [isDigI]; rfl)) hl
    have hc : Ev (fun k => slices_ContainsFunc_impl_areDigests_1.f k l) (!all4 l) := by
      rw [← any_not_all4, ← e]
      exact ev_bind (f := fun _ t => some (decide (t ≥ 0))) hr (Ev.now _)
    refine ev_eq (ev_bind (f := fun _ t => some (!t)) hc (Ev.now _)) ?_
    rw [decide_eq_true h, Bool.true_and, Bool.not_not]
  · refine ev_neg h ?_
    rw [decide_eq_false h]
    exact Ev.now _
theorem good11S (l : List ByteArray) (hl : l.length ≤ 4000000000000000000) : Ev (fun k => spec_l2Good.f k l) (decide ((l.length : Int) = 11) && all4 l) := by
  have key : ∀ (d i : Nat), i + d = l.length → Ev (fun k => spec_l2Good.l0 k l l (l.length : Int) (i : Int)) (decide ((l.length : Int) = 11) && all4 (l.drop i)) := by
    intro d
    induction d with
    | zero =>
      intro i hi
      refine Ev.step (f := fun _ => some ((l.length : Int) == 11)) (fun k => ?_) ?_
      · simp only [spec_l2Good.l0]; rw [if_neg (by omega)]
      · rw [List.drop_eq_nil_of_le (by omega)]
        refine ev_eq (Ev.now _) ?_
        simp only [all4, List.all_nil, Bool.and_true]
        rfl
    | succ d ih =>
      intro i hi
      have hlt : i < l.length := by omega
      rw [List.drop_eq_getElem_cons hlt]
      by_cases hb : l[i].size = 4
      · refine Ev.step (f := fun k => spec_l2Good.l0 k l l (l.length : Int) ((i + 1 : Nat) : Int)) (fun k => ?_) ?_
        · simp only [spec_l2Good.l0]
          rw [if_pos (by omega), if_pos (by omega), if_pos (by omega), rdOf_at _ _ _ hlt, if_pos (by omega), w64 (x := (i : Int) + 1) (by omega) (by omega)]
          rfl
        · refine ev_eq (ih (i + 1) (by omega)) ?_
          simp only [all4, List.all_cons, decide_eq_true hb, Bool.true_and]
      · refine Ev.step (f := fun _ => some false) (fun k => ?_) ?_
        · simp only [spec_l2Good.l0]
          rw [if_pos (by omega), if_pos (by omega), if_pos (by omega), rdOf_at _ _ _ hlt, if_neg (by omega)]
        · refine ev_eq (Ev.now _) ?_
          simp only [all4, List.all_cons, decide_eq_false hb, Bool.false_and, Bool.and_false]
  exact key l.length 0 (by omega)
theorem good_of (l : List ByteArray) (h : (decide ((l.length : Int) = 11) && all4 l) = true) : Good11 l := by
  simp only [Bool.and_eq_true, decide_eq_true_eq] at h
  exact ⟨by omega, (all4_iff l).1 h.2⟩
def okSign (text : ByteArray) (l : List ByteArray) : Bool := decide ((text.size : Int) ≤ 200) && (decide ((l.length : Int) = 11) && all4 l)
theorem isSignI (text : ByteArray) (l : List ByteArray) (hl : l.length ≤ 4000000000000000000) : Ev (fun k => impl_isSign.f k text l) (okSign text l) := by
  unfold impl_isSign.f okSign
  by_cases h : (text.size : Int) ≤ 200
  · refine ev_pos h ?_
    rw [decide_eq_true h, Bool.true_and]
    exact ev_bind (f := fun _ t => some t) (areDigI l 11 hl) (Ev.now _)
  · refine ev_neg h ?_
    rw [decide_eq_false h]
    exact Ev.now _
theorem okSign_good {text : ByteArray} {l : List ByteArray} (h : okSign text l = true) : text.size ≤ 200 ∧ Good11 l := by
  unfold okSign at h
  rw [Bool.and_eq_true] at h
  have h1 := h.1
  rw [decide_eq_true_eq] at h1
  exact ⟨by omega, good_of l h.2⟩
theorem publicFrom_two (text : ByteArray) (l : List ByteArray) (hl : l.length ≤ 4000000000000000000) : ∃ r, Ev (fun k => spec_PublicFrom.f k text l) r ∧ Ev (fun k => impl_PublicFrom.f k text l) r := by
  have hI := isSignI text l hl
  have hS := good11S l hl
  cases hb : okSign text l with
  | true =>
    rw [hb] at hI
    obtain ⟨ht, hg⟩ := okSign_good hb
    refine ⟨(fromM text l, true), ?_, ?_⟩
    · unfold okSign at hb
      rw [Bool.and_eq_true] at hb
      rw [hb.2] at hS
      refine ev_const (longS text) ?_
      refine ev_pos hb.1 (ev_bind hS (ev_pos rfl (ev_bind (fromS text l (by omega) hg) (Ev.now _))))
    · exact ev_bind hI (ev_pos rfl (ev_bind (fromI text l (by omega) hg) (Ev.now _)))
  | false =>
    rw [hb] at hI
    refine ⟨(⟨#[]⟩, false), ?_, ?_⟩
    · refine ev_const (longS text) ?_
      by_cases h : (text.size : Int) ≤ 200
      · unfold okSign at hb
        rw [decide_eq_true h, Bool.true_and] at hb
        rw [hb] at hS
        exact ev_pos (decide_eq_true h) (ev_bind hS (ev_neg (by simp) (Ev.now _)))
      · exact ev_neg (by simp [h]) (Ev.now _)
    · exact ev_bind hI (ev_neg (by simp) (Ev.now _))
theorem checkOnce_two (pub text : ByteArray) (l : List ByteArray) (hl : l.length ≤ 4000000000000000000) : ∃ r, Ev (fun k => spec_CheckOnce.f k pub text l) r ∧ Ev (fun k => impl_CheckOnce.f k pub text l) r := by
  have hI := isSignI text l hl
  have hS := good11S l hl
  by_cases hp : pub.size = 4
  · cases hb : okSign text l with
    | true =>
      rw [hb] at hI
      obtain ⟨ht, hg⟩ := okSign_good hb
      refine ⟨((fromM text l).toList == pub.toList, true), ?_, ?_⟩
      · unfold okSign at hb
        rw [Bool.and_eq_true] at hb
        rw [hb.2] at hS
        refine ev_pos (by omega) (ev_const (longS text) ?_)
        exact ev_pos hb.1 (ev_bind hS (ev_pos rfl (ev_bind (fromS text l (by omega) hg) (Ev.now _))))
      · refine ev_const (isDigI pub) (ev_pos (decide_eq_true hp) ?_)
        exact ev_bind hI (ev_pos rfl (ev_bind (fromI text l (by omega) hg) (Ev.now _)))
    | false =>
      rw [hb] at hI
      refine ⟨(false, false), ?_, ?_⟩
      · refine ev_pos (by omega) (ev_const (longS text) ?_)
        by_cases h : (text.size : Int) ≤ 200
        · unfold okSign at hb
          rw [decide_eq_true h, Bool.true_and] at hb
          rw [hb] at hS
          exact ev_pos (decide_eq_true h) (ev_bind hS (ev_neg (by simp) (Ev.now _)))
        · exact ev_neg (by simp [h]) (Ev.now _)
      · exact ev_const (isDigI pub) (ev_pos (decide_eq_true hp) (ev_bind hI (ev_neg (by simp) (Ev.now _))))
  · refine ⟨(false, false), ev_neg (by omega) (Ev.now _), ?_⟩
    exact ev_const (isDigI pub) (ev_neg (by simp [hp]) (Ev.now _))
end Go.Proofs.Ytfajabboibcgpaa.PU
end
section
namespace Go.Proofs.Ytfajabboibcgpaa.PG
open Go.RowKit Go.Proofs.YtfajabboibcgpaaW.PrintWords Go.Proofs.YtfajabboibcgpaaW.PrintLast Go.Proofs.YtfajabboibcgpaaW.PrintMore Go.Proofs.Ytfajabboibcgpaa.PB Go.Proofs.Ytfajabboibcgpaa.PL
set_option linter.unusedVariables false
end Go.Proofs.Ytfajabboibcgpaa.PG
end
section
namespace Go.Proofs.Ytfajabboibcgpaa.PQ
open Go.RowKit Go.Proofs.YtfajabboibcgpaaW.PrintWords Go.Proofs.YtfajabboibcgpaaW.PrintLast Go.Proofs.YtfajabboibcgpaaW.PrintMore Go.Proofs.Ytfajabboibcgpaa.PB Go.Proofs.Ytfajabboibcgpaa.PD Go.Proofs.Ytfajabboibcgpaa.PK Go.Proofs.Ytfajabboibcgpaa.PL Go.Proofs.Ytfajabboibcgpaa.PS Go.Proofs.Ytfajabboibcgpaa.PT Go.Proofs.Ytfajabboibcgpaa.PU Go.Proofs.Ytfajabboibcgpaa.PG Go.Proofs.Ytfajabboibcgpaa.PA
set_option linter.unusedVariables false
end Go.Proofs.Ytfajabboibcgpaa.PQ
end
section
namespace Go.Proofs.Ytfajabboibcgpaa.PV
open Go.RowKit Go.Proofs.YtfajabboibcgpaaW.PrintWords Go.Proofs.YtfajabboibcgpaaW.PrintLast Go.Proofs.YtfajabboibcgpaaW.PrintMore Go.Proofs.Ytfajabboibcgpaa.PB Go.Proofs.Ytfajabboibcgpaa.PD Go.Proofs.Ytfajabboibcgpaa.PK Go.Proofs.Ytfajabboibcgpaa.PL Go.Proofs.Ytfajabboibcgpaa.PS Go.Proofs.Ytfajabboibcgpaa.PT Go.Proofs.Ytfajabboibcgpaa.PU Go.Proofs.Ytfajabboibcgpaa.PG Go.Proofs.Ytfajabboibcgpaa.PQ Go.Proofs.Ytfajabboibcgpaa.PA
set_option linter.unusedVariables false
end Go.Proofs.Ytfajabboibcgpaa.PV
end
section
namespace Go.Proofs.Ytfajabboibcgpaa.PW
open Go.RowKit Go.Proofs.YtfajabboibcgpaaW.PrintWords Go.Proofs.YtfajabboibcgpaaW.PrintLast Go.Proofs.YtfajabboibcgpaaW.PrintMore Go.Proofs.Ytfajabboibcgpaa.PB Go.Proofs.Ytfajabboibcgpaa.PD Go.Proofs.Ytfajabboibcgpaa.PK Go.Proofs.Ytfajabboibcgpaa.PL Go.Proofs.Ytfajabboibcgpaa.PS Go.Proofs.Ytfajabboibcgpaa.PT Go.Proofs.Ytfajabboibcgpaa.PU Go.Proofs.Ytfajabboibcgpaa.PG Go.Proofs.Ytfajabboibcgpaa.PQ Go.Proofs.Ytfajabboibcgpaa.PV Go.Proofs.Ytfajabboibcgpaa.PA
set_option linter.unusedVariables false
end Go.Proofs.Ytfajabboibcgpaa.PW
end
section
namespace Go.Proofs.Ytfajabboibcgpaa.PE
open Go.RowKit Go.Proofs.YtfajabboibcgpaaW.PrintWords Go.Proofs.YtfajabboibcgpaaW.PrintLast Go.Proofs.YtfajabboibcgpaaW.PrintMore Go.Proofs.Ytfajabboibcgpaa.PB Go.Proofs.Ytfajabboibcgpaa.PD Go.Proofs.Ytfajabboibcgpaa.PK Go.Proofs.Ytfajabboibcgpaa.PL Go.Proofs.Ytfajabboibcgpaa.PS Go.Proofs.Ytfajabboibcgpaa.PT Go.Proofs.Ytfajabboibcgpaa.PU Go.Proofs.Ytfajabboibcgpaa.PG Go.Proofs.Ytfajabboibcgpaa.PC Go.Proofs.Ytfajabboibcgpaa.PW Go.Proofs.Ytfajabboibcgpaa.PA
set_option linter.unusedVariables false
def digitsOfM (t : ByteArray) : List Int × Bool := if (t.size : Int) ≤ 200 then (digitsM t, true) else ([], false)
theorem digitsOfI (t : ByteArray) : Ev (fun k => impl_DigitsOf.f k t) (digitsOfM t) := by
  unfold digitsOfM
  by_cases h : (t.size : Int) ≤ 200
  · rw [if_pos h]
    exact ev_neg (by omega) (ev_bind (digitsI t (by omega)) (Ev.now _))
  · rw [if_neg h]
    exact ev_pos (by omega) (Ev.now _)
def chainOfM (s : ByteArray) (a b : Int) : ByteArray × Bool := if s.size = 4 ∧ (0 ≤ a ∧ a ≤ 15) ∧ (0 ≤ b ∧ b ≤ 15 - a) then (chainM s a.toNat b.toNat, true) else (⟨#[]⟩, false)
theorem chainOfI (s : ByteArray) (a b : Int) : Ev (fun k => impl_ChainOf.f k s a b) (chainOfM s a b) := by
  unfold chainOfM
  refine ev_const (isDigI s) ?_
  by_cases h1 : s.size = 4
  · refine ev_pos (decide_eq_true h1) (ev_const (inI _ _ _) ?_)
    by_cases h2 : 0 ≤ a ∧ a ≤ 15
    · refine ev_pos (decide_eq_true h2) ?_
      rw [w64 (x := 15 - a) (by omega) (by omega)]
      refine ev_const (inI _ _ _) ?_
      by_cases h3 : 0 ≤ b ∧ b ≤ 15 - a
      · refine ev_pos (decide_eq_true h3) (ev_eq (ev_bind ?_ (Ev.now _)) (if_pos ⟨h1, h2, h3⟩).symm)
        have := chainI s a.toNat b.toNat (by omega) (by omega)
        rw [show ((a.toNat : Nat) : Int) = a by omega, show ((b.toNat : Nat) : Int) = b by omega] at this
        exact this
      · exact ev_neg (by simp [h3]) (ev_eq (Ev.now _) (if_neg (fun h => h3 h.2.2)).symm)
    · exact ev_neg (by simp [h2]) (ev_eq (Ev.now _) (if_neg (fun h => h2 h.2.1)).symm)
  · exact ev_neg (by simp [h1]) (ev_eq (Ev.now _) (if_neg (fun h => h1 h.1)).symm)
theorem chainM_add (n : Nat) : ∀ (m i : Nat) (s : ByteArray), chainM (chainM s i m) (i + m) n = chainM s i (m + n) := by
  intro m
  induction m with
  | zero => intro i s; rw [Nat.zero_add]; rfl
  | succ m ih =>
    intro i s
    rw [show m + 1 + n = (m + n) + 1 by omega]
    have := ih (i + 1) (dig 99 (one (i : Int) ++ s))
    rw [show i + 1 + m = i + (m + 1) by omega] at this
    exact this
theorem message_d {c : List Int} (hc : Bys c) (i s : Int) (h0 : 0 ≤ i) (h1 : i ≤ 10000000000) : Drawn i 10 (spec_l1Cur_message.f c i s) (fun t => t.size ≤ 201) := by
  obtain ⟨b, i1, s1, e1, _, hi1, hi2⟩ := one_d hc i s 20 h0 (by omega) (by omega)
  unfold spec_l1Cur_message.f
  rw [e1]
  simp only [Option.bind_some]
  cases b with
  | true =>
    obtain ⟨v, i2, s2, e2, hv, hi3, hi4⟩ := pick_d hc i1 s1 2 (by omega) (by omega) (by omega)
    have ew : wrap64 (200 + v) = 200 + v := w64 (by omega) (by omega)
    simp only [if_true, e2, Option.bind_some]
    rw [ew, if_pos (by omega), if_pos (by omega)]
    refine ⟨_, i2, s2, rfl, ?_, by omega, by omega⟩
    show (strOfNums (List.replicate (200 + v).toNat 0)).size ≤ 201
    rw [strOfNums_size, List.length_replicate]; omega
  | false =>
    obtain ⟨v, i2, s2, e2, hv, hi3, hi4⟩ := of_d hc i1 s1 [⟨#[]⟩, ⟨#[97]⟩, ⟨#[98]⟩, ⟨#[112, 97, 121, 32, 53]⟩, ⟨#[112, 97, 121, 32, 54]⟩, ⟨#[97, 32, 114, 111, 111, 116]⟩] (by omega) (by omega) (by decide)
    have hz : v.size ≤ 201 := by
      simp only [List.mem_cons, List.not_mem_nil, or_false] at hv
      rcases hv with rfl | rfl | rfl | rfl | rfl | rfl <;> decide
    rw [if_neg (by simp), e2]
    exact ⟨v, i2, s2, rfl, hz, by omega, by omega⟩
end Go.Proofs.Ytfajabboibcgpaa.PE
end
section
namespace Go.Proofs.Ytfajabboibcgpaa.Pure
open Go.RowKit Go.Proofs.YtfajabboibcgpaaW.PrintWords Go.Proofs.YtfajabboibcgpaaW.PrintLast Go.Proofs.YtfajabboibcgpaaW.PrintMore Go.Proofs.Ytfajabboibcgpaa.PB Go.Proofs.Ytfajabboibcgpaa.PD Go.Proofs.Ytfajabboibcgpaa.PK Go.Proofs.Ytfajabboibcgpaa.PL Go.Proofs.Ytfajabboibcgpaa.PS Go.Proofs.Ytfajabboibcgpaa.PT Go.Proofs.Ytfajabboibcgpaa.PU Go.Proofs.Ytfajabboibcgpaa.PC Go.Proofs.Ytfajabboibcgpaa.PW Go.Proofs.Ytfajabboibcgpaa.PE Go.Proofs.Ytfajabboibcgpaa.PA
set_option linter.unusedVariables false
def pubAt (seed : ByteArray) (i : Nat) : ByteArray := chainM (keyM seed i) 0 15
def publicM (seed : ByteArray) : ByteArray := dig 112 (joined ((List.range 11).map (pubAt seed)) ⟨#[]⟩)
theorem pub_size (seed : ByteArray) : ∀ i, (joined ((List.range i).map (pubAt seed)) ⟨#[]⟩).size = 4 * i := by
  intro i
  induction i with
  | zero => rfl
  | succ i ih =>
    rw [List.range_succ, List.map_append, List.map_cons, List.map_nil, joined_snoc, app_size, ih]
    unfold pubAt
    rw [chainM_size _ (keyM_size _ _)]
    omega
theorem publicS (seed : ByteArray) (hs : seed.size ≤ 1000000) : Ev (fun k => spec_l2Public.f k seed) (publicM seed) := by
  have key : ∀ (d i : Nat), i + d = 11 → Ev (fun k => spec_l2Public.l0 k seed (joined ((List.range i).map (pubAt seed)) ⟨#[]⟩) (i : Int)) (publicM seed) := by
    intro d
    induction d with
    | zero =>
      intro i hi
      have hj := pub_size seed 11
      refine Ev.step (f := fun k => (spec_l1Digest.f k 112 (joined ((List.range 11).map (pubAt seed)) ⟨#[]⟩)).bind fun t => some t) (fun k => ?_) (ev_bind (digS 112 kp _ (by omega)) (Ev.now _))
      simp only [spec_l2Public.l0]
      rw [if_neg (by omega), show i = 11 by omega]
    | succ d ih =>
      intro i hi
      have hj := pub_size seed i
      refine Ev.step (f := fun k => (spec_l2Key.f k seed (i : Int)).bind fun u => (spec_l2Chain.f k u 0 15).bind fun t => if (joined ((List.range i).map (pubAt seed)) ⟨#[]⟩).size + t.size ≤ 9223372036854775807 then spec_l2Public.l0 k seed (joined ((List.range i).map (pubAt seed)) ⟨#[]⟩ ++ t) ((i + 1 : Nat) : Int) else none) (fun k => ?_) ?_
      · simp only [spec_l2Public.l0]
        rw [if_pos (by omega), w64 (x := (i : Int) + 1) (by omega) (by omega)]
        rfl
      · refine ev_bind (keyS seed hs i) (ev_bind (chainS' _ 0 15 (by omega) (by omega) (by omega) (by rw [keyM_size]; omega)) (ev_pos (by rw [chainM_size _ (keyM_size _ _)]; omega) ?_))
        have e : joined ((List.range i).map (pubAt seed)) ⟨#[]⟩ ++ chainM (keyM seed i) (0 : Int).toNat (15 : Int).toNat = joined ((List.range (i + 1)).map (pubAt seed)) ⟨#[]⟩ := by
          rw [List.range_succ, List.map_append, List.map_cons, List.map_nil, joined_snoc]; rfl
        rw [e]
        exact ih (i + 1) (by omega)
  exact key 11 0 (by omega)
theorem parts_at (seed : ByteArray) (i : Nat) (h : i < 11) : rdOf ByteArray.empty (partsM seed) (i : Int) = keyM seed i := by
  rw [rdOf_at _ _ i (by simp [partsM]; omega)]; simp [partsM]
theorem parts_len (seed : ByteArray) : (partsM seed).length = 11 := by simp [partsM]
theorem publicI (seed : ByteArray) (hs : seed.size ≤ 1000000) : Ev (fun k => impl_public.f k seed) (publicM seed) := by
  have hl := parts_len seed
  have key : ∀ (d i : Nat), i + d = 11 → Ev (fun k => impl_public.l0 k (joined ((List.range i).map (pubAt seed)) ⟨#[]⟩) (partsM seed) ((partsM seed).length : Int) (i : Int)) (publicM seed) := by
    intro d
    induction d with
    | zero =>
      intro i hi
      have hj := pub_size seed 11
      refine Ev.step (f := fun k => (impl_digest.f k 112 (joined ((List.range 11).map (pubAt seed)) ⟨#[]⟩)).bind fun t => some t) (fun k => ?_) (ev_bind (digI 112 kp _ (by omega)) (Ev.now _))
      simp only [impl_public.l0]
      rw [if_neg (by omega), show i = 11 by omega]
    | succ d ih =>
      intro i hi
      have hj := pub_size seed i
      refine Ev.step (f := fun k => (impl_chain.f k (keyM seed i) 0 15).bind fun t => if (joined ((List.range i).map (pubAt seed)) ⟨#[]⟩).size + t.size ≤ 9223372036854775807 then impl_public.l0 k (joined ((List.range i).map (pubAt seed)) ⟨#[]⟩ ++ t) (partsM seed) ((partsM seed).length : Int) ((i + 1 : Nat) : Int) else none) (fun k => ?_) ?_
      · simp only [impl_public.l0]
        rw [if_pos (by omega), if_pos (by omega), if_pos (by omega), parts_at seed i (by omega), w64 (x := (i : Int) + 1) (by omega) (by omega)]
        rfl
      · refine ev_bind (chainI' _ 0 15 (by omega) (by omega) (by omega) (by rw [keyM_size]; omega)) (ev_pos (by rw [chainM_size _ (keyM_size _ _)]; omega) ?_)
        have e : joined ((List.range i).map (pubAt seed)) ⟨#[]⟩ ++ chainM (keyM seed i) (0 : Int).toNat (15 : Int).toNat = joined ((List.range (i + 1)).map (pubAt seed)) ⟨#[]⟩ := by
          rw [List.range_succ, List.map_append, List.map_cons, List.map_nil, joined_snoc]; rfl
        rw [e]
        exact ih (i + 1) (by omega)
  exact ev_bind (partsI seed hs) (key 11 0 (by omega))
theorem partsS (seed : ByteArray) (hs : seed.size ≤ 1000000) : Ev (fun k => spec_KeyParts.l0 k seed [] 0) (partsM seed, true) := by
  have key : ∀ (d i : Nat), i + d = 11 → Ev (fun k => spec_KeyParts.l0 k seed ((List.range i).map (keyM seed)) (i : Int)) (partsM seed, true) := by
    intro d
    induction d with
    | zero =>
      intro i hi
      refine Ev.step (f := fun _ => some (partsM seed, true)) (fun k => ?_) (Ev.now _)
      simp only [spec_KeyParts.l0]
      rw [if_neg (by omega), show i = 11 by omega]
      rfl
    | succ d ih =>
      intro i hi
      refine Ev.step (f := fun k => (spec_l2Key.f k seed (i : Int)).bind fun t => spec_KeyParts.l0 k seed ((List.range i).map (keyM seed) ++ [t]) ((i + 1 : Nat) : Int)) (fun k => ?_) ?_
      · simp only [spec_KeyParts.l0]
        rw [if_pos (by omega), w64 (x := (i : Int) + 1) (by omega) (by omega)]
        congr 1
        funext t
        rw [if_pos (by simp only [List.length_map, List.length_range]; omega)]
        rfl
      · refine ev_bind (keyS seed hs i) ?_
        have e : (List.range i).map (keyM seed) ++ [keyM seed i] = (List.range (i + 1)).map (keyM seed) := by
          rw [List.range_succ, List.map_append]; rfl
        rw [e]
        exact ih (i + 1) (by omega)
  exact key 11 0 (by omega)
theorem sign_at (seed text : ByteArray) (i : Nat) (h : i < 11) : (signM seed text).getD i ⟨#[]⟩ = signAt seed text i := by
  rw [List.getD_eq_getElem?_getD, List.getElem?_eq_getElem (by rw [signM_length]; exact h)]
  simp [signM]
theorem from_sign (seed text : ByteArray) : fromM text (signM seed text) = publicM seed := by
  unfold fromM publicM
  have e : (List.range 11).map (fromAt text (signM seed text)) = (List.range 11).map (pubAt seed) := by
    apply List.map_congr_left
    intro i hi
    have hi' : i < 11 := List.mem_range.1 hi
    have hr := rd_digits text i hi'
    unfold fromAt
    rw [sign_at seed text i hi']
    unfold signAt pubAt
    have := chainM_add (15 - rd (digitsM text) (i : Int)).toNat (rd (digitsM text) (i : Int)).toNat 0 (keyM seed i)
    rw [Nat.zero_add] at this
    rw [this]
    congr 1
    omega
  rw [e]
theorem sign_good (seed text : ByteArray) (ht : (text.size : Int) ≤ 200) : okSign text (signM seed text) = true := by
  unfold okSign
  rw [decide_eq_true ht, decide_eq_true (by rw [signM_length]; rfl), Bool.true_and, Bool.true_and]
  refine (all4_iff _).2 ?_
  intro s hs
  obtain ⟨i, _, rfl⟩ := List.mem_map.1 hs
  exact chainM_size _ (keyM_size _ _) _ _
def seedB (s : ByteArray) : Prop := 1 ≤ (s.size : Int) ∧ (s.size : Int) ≤ 16
instance (s : ByteArray) : Decidable (seedB s) := inferInstanceAs (Decidable (_ ∧ _))
def signOnceM (seed text : ByteArray) : List ByteArray × Bool := if seedB seed ∧ (text.size : Int) ≤ 200 then (signM seed text, true) else ([], false)
theorem signOnceS (seed text : ByteArray) : Ev (fun k => spec_SignOnce.f k seed text) (signOnceM seed text) := by
  unfold signOnceM spec_SignOnce.f
  refine ev_const (seedS seed) ?_
  by_cases h1 : seedB seed
  · refine ev_pos (decide_eq_true h1) (ev_const (longS text) ?_)
    have h1' : seed.size ≤ 1000000 := by have := h1.2; omega
    by_cases h2 : (text.size : Int) ≤ 200
    · exact ev_pos (decide_eq_true h2) (ev_bind (signS seed text h1' (by omega)) (ev_eq (Ev.now _) (if_pos ⟨h1, h2⟩).symm))
    · exact ev_neg (by simp [h2]) (ev_eq (Ev.now _) (if_neg (fun h => h2 h.2)).symm)
  · exact ev_neg (fun h => h1 (of_decide_eq_true h)) (ev_eq (Ev.now _) (if_neg (fun h => h1 h.1)).symm)
theorem signOnceI (seed text : ByteArray) : Ev (fun k => impl_SignOnce.f k seed text) (signOnceM seed text) := by
  unfold signOnceM impl_SignOnce.f
  refine ev_const (seedI seed 16) ?_
  by_cases h1 : seedB seed
  · refine ev_pos (decide_eq_true h1) ?_
    have h1' : seed.size ≤ 1000000 := by have := h1.2; omega
    by_cases h2 : (text.size : Int) ≤ 200
    · exact ev_neg (by omega) (ev_bind (signI seed text h1' (by omega)) (ev_eq (Ev.now _) (if_pos ⟨h1, h2⟩).symm))
    · exact ev_pos (by omega) (ev_eq (Ev.now _) (if_neg (fun h => h2 h.2)).symm)
  · exact ev_neg (fun h => h1 (of_decide_eq_true h)) (ev_eq (Ev.now _) (if_neg (fun h => h1 h.1)).symm)
def publicOfM (seed : ByteArray) : ByteArray × Bool := if seedB seed then (publicM seed, true) else (⟨#[]⟩, false)
theorem publicOfS (seed : ByteArray) : Ev (fun k => spec_PublicOf.f k seed) (publicOfM seed) := by
  unfold publicOfM spec_PublicOf.f
  refine ev_const (seedS seed) ?_
  by_cases h1 : seedB seed
  · have h1' : seed.size ≤ 1000000 := by have := h1.2; omega
    exact ev_pos (decide_eq_true h1) (ev_bind (publicS seed h1') (ev_eq (Ev.now _) (if_pos h1).symm))
  · exact ev_neg (fun h => h1 (of_decide_eq_true h)) (ev_eq (Ev.now _) (if_neg h1).symm)
theorem publicOfI (seed : ByteArray) : Ev (fun k => impl_PublicOf.f k seed) (publicOfM seed) := by
  unfold publicOfM impl_PublicOf.f
  refine ev_const (seedI seed 16) ?_
  by_cases h1 : seedB seed
  · have h1' : seed.size ≤ 1000000 := by have := h1.2; omega
    exact ev_pos (decide_eq_true h1) (ev_bind (publicI seed h1') (ev_eq (Ev.now _) (if_pos h1).symm))
  · exact ev_neg (fun h => h1 (of_decide_eq_true h)) (ev_eq (Ev.now _) (if_neg h1).symm)
def keyPartsM (seed : ByteArray) : List ByteArray × Bool := if seedB seed then (partsM seed, true) else ([], false)
theorem keyPartsS (seed : ByteArray) : Ev (fun k => spec_KeyParts.f k seed) (keyPartsM seed) := by
  unfold keyPartsM spec_KeyParts.f
  refine ev_const (seedS seed) ?_
  by_cases h1 : seedB seed
  · have h1' : seed.size ≤ 1000000 := by have := h1.2; omega
    exact ev_pos (decide_eq_true h1) (ev_eq (partsS seed h1') (if_pos h1).symm)
  · exact ev_neg (fun h => h1 (of_decide_eq_true h)) (ev_eq (Ev.now _) (if_neg h1).symm)
theorem keyPartsI (seed : ByteArray) : Ev (fun k => impl_KeyParts.f k seed) (keyPartsM seed) := by
  unfold keyPartsM impl_KeyParts.f
  refine ev_const (seedI seed 16) ?_
  by_cases h1 : seedB seed
  · have h1' : seed.size ≤ 1000000 := by have := h1.2; omega
    exact ev_pos (decide_eq_true h1) (ev_bind (partsI seed h1') (ev_eq (Ev.now _) (if_pos h1).symm))
  · exact ev_neg (fun h => h1 (of_decide_eq_true h)) (ev_eq (Ev.now _) (if_neg h1).symm)
theorem sameTexts_yes (l : List ByteArray) (hl : l.length ≤ 2000000) : Ev (fun k => laws_sameTexts.f k l l) true := by
  have key : ∀ (d i : Nat), i + d = l.length → Ev (fun k => laws_sameTexts.l0 k l l (l.length : Int) (i : Int)) true := by
    intro d
    induction d with
    | zero =>
      intro i hi
      exact Ev.step (f := fun _ => some true) (fun k => by simp only [laws_sameTexts.l0]; rw [if_neg (by omega)]) (Ev.now _)
    | succ d ih =>
      intro i hi
      refine Ev.step (f := fun k => laws_sameTexts.l0 k l l (l.length : Int) ((i + 1 : Nat) : Int)) (fun k => ?_) (ih (i + 1) (by omega))
      simp only [laws_sameTexts.l0]
      rw [if_pos (by omega), if_pos (by omega), if_pos (by omega), if_pos (by omega), if_pos trivial, w64 (x := (i : Int) + 1) (by omega) (by omega)]
      rfl
  exact ev_pos rfl (key l.length 0 (by omega))
theorem seedText_d {c : List Int} (hc : Bys c) (i s : Int) (h0 : 0 ≤ i) (h1 : i ≤ 100000000000) : Drawn i 2 (spec_l1Cur_seedText.f c i s) (fun t => t.size ≤ 17) := by
  obtain ⟨v, i', s', e, hv, hi1, hi2⟩ := of_d hc i s [⟨#[115, 101, 101, 100]⟩, ⟨#[111, 116, 104, 101, 114]⟩, ⟨#[120]⟩, ⟨#[]⟩, ⟨#[115, 105, 120, 116, 101, 101, 110, 32, 98, 121, 116, 101, 115, 32, 111, 107]⟩, ⟨#[115, 101, 118, 101, 110, 116, 101, 101, 110, 32, 98, 121, 116, 101, 115, 33, 33]⟩] h0 h1 (by decide)
  have hz : v.size ≤ 17 := by
    simp only [List.mem_cons, List.not_mem_nil, or_false] at hv
    rcases hv with rfl | rfl | rfl | rfl | rfl | rfl <;> decide
  unfold spec_l1Cur_seedText.f
  rw [e]
  exact ⟨_, _, _, rfl, hz, hi1, hi2⟩
theorem drawSignOnce {c : List Int} (hc : Bys c) : ∃ s t, spec_DrawSignOnce.f c = some (s, t) := by
  obtain ⟨v, i1, s1, e, _, h1, h2⟩ := seedText_d hc 0 0 (by omega) (by omega)
  obtain ⟨u, i2, s2, e2, _, h3, h4⟩ := message_d hc i1 s1 (by omega) (by omega)
  exact ⟨v, u, by unfold spec_DrawSignOnce.f; rw [e]; simp only [Option.bind_some, e2]⟩
theorem drawPublicFrom {c : List Int} (hc : Bys c) : ∃ t l, Ev (fun k => spec_DrawPublicFrom.f k c) (t, l) ∧ l.length ≤ 11 := by
  obtain ⟨v, i1, s1, e, _, h1, h2⟩ := seedText_d hc 0 0 (by omega) (by omega)
  obtain ⟨u, i2, s2, e2, hu, h3, h4⟩ := message_d hc i1 s1 (by omega) (by omega)
  have fin : ∀ (t : ByteArray) (l : List ByteArray) (i s : Int), t.size ≤ 1000 → 0 ≤ i → i ≤ 1000 → ∃ t', Ev (fun k => (spec_l1Cur_one.f c i s 6).bind fun b => (if b.1 = true then (if t.size + 1 ≤ 9223372036854775807 then (some (t ++ (⟨#[33]⟩ : ByteArray), l)) else (none)) else (some (t, l)))) (t', l) := by
    intro t l i s ht h0 h1
    obtain ⟨b, i3, s3, e3, _, h5, h6⟩ := one_d hc i s 6 (by omega) (by omega) (by omega)
    cases b with
    | true => exact ⟨_, ev_const e3 (ev_pos rfl (ev_pos (by omega) (Ev.now _)))⟩
    | false => exact ⟨_, ev_const e3 (ev_neg (by simp) (Ev.now _))⟩
  have j2 : ∀ (b : Bool) (t : ByteArray) (l : List ByteArray) (i s : Int), t.size ≤ 1000 → 0 ≤ i → i ≤ 1000 → l.length ≤ 11 → (b = true → 1 ≤ l.length) → ∃ t' l', Ev (fun k => spec_DrawPublicFrom.j2 k t l b c i s) (t', l') ∧ l'.length ≤ 11 := by
    intro b t l i s ht h0 h1 hl hb
    cases b with
    | true =>
      have hl1 := hb rfl
      obtain ⟨t', hr⟩ := fin t (l.drop 1) i s ht h0 h1
      refine ⟨t', l.drop 1, Ev.step (f := fun k => (spec_l1Cur_one.f c i s 6).bind fun b => (if b.1 = true then (if t.size + 1 ≤ 9223372036854775807 then (some (t ++ (⟨#[33]⟩ : ByteArray), l.drop 1)) else (none)) else (some (t, l.drop 1)))) (fun k => ?_) hr, by rw [List.length_drop]; omega⟩
      simp only [spec_DrawPublicFrom.j2]
      rw [if_pos trivial, if_pos (by omega)]
      rfl
    | false =>
      obtain ⟨t', hr⟩ := fin t l i s ht h0 h1
      refine ⟨t', l, Ev.step (f := fun k => (spec_l1Cur_one.f c i s 6).bind fun b => (if b.1 = true then (if t.size + 1 ≤ 9223372036854775807 then (some (t ++ (⟨#[33]⟩ : ByteArray), l)) else (none)) else (some (t, l)))) (fun k => ?_) hr, hl⟩
      simp only [spec_DrawPublicFrom.j2]
      rw [if_neg (by simp)]
  have j1 : ∀ (b : Bool) (t : ByteArray) (l : List ByteArray) (i s : Int), t.size ≤ 1000 → 0 ≤ i → i ≤ 900 → l.length ≤ 11 → (b = true → l.length = 11) → ∃ t' l', Ev (fun k => spec_DrawPublicFrom.j1 k t l b c i s) (t', l') ∧ l'.length ≤ 11 := by
    intro b t l i s ht h0 h1 hl hb
    cases b with
    | true =>
      have hl1 := hb rfl
      obtain ⟨b2, i3, s3, e3, _, h5, h6⟩ := one_d hc i s 12 (by omega) (by omega) (by omega)
      obtain ⟨t', l', hr, hz⟩ := j2 b2 t l i3 s3 ht (by omega) (by omega) hl (fun _ => by omega)
      refine ⟨t', l', Ev.step (f := fun k => spec_DrawPublicFrom.j2 k t l b2 c i3 s3) (fun k => ?_) hr, hz⟩
      simp only [spec_DrawPublicFrom.j1]
      rw [if_pos trivial, e3]
      rfl
    | false =>
      obtain ⟨t', l', hr, hz⟩ := j2 false t l i s ht (by omega) (by omega) hl (fun h => by cases h)
      refine ⟨t', l', Ev.step (f := fun k => spec_DrawPublicFrom.j2 k t l false c i s) (fun k => ?_) hr, hz⟩
      simp only [spec_DrawPublicFrom.j1]
      rw [if_neg (by simp)]
  have j0 : ∀ (b ok : Bool) (t : ByteArray) (l : List ByteArray) (i s : Int), t.size ≤ 1000 → 0 ≤ i → i ≤ 800 → l.length ≤ 11 → (ok = true → l.length = 11) → (b = true → l.length = 11) → ∃ t' l', Ev (fun k => spec_DrawPublicFrom.j0 k t l ok b c i s) (t', l') ∧ l'.length ≤ 11 := by
    intro b ok t l i s ht h0 h1 hl hok hb
    cases b with
    | true =>
      have hl1 := hb rfl
      obtain ⟨n, i3, s3, e3, hn, h5, h6⟩ := pick_d hc i s (l.length : Int) (by omega) (by omega) (by omega)
      obtain ⟨t', l', hr, hz⟩ := j1 ok t (l.set n.toNat ⟨#[97, 98, 99, 100]⟩) i3 s3 ht (by omega) (by omega) (by rw [List.length_set]; exact hl) (fun h => by rw [List.length_set]; exact hok h)
      refine ⟨t', l', Ev.step (f := fun k => spec_DrawPublicFrom.j1 k t (l.set n.toNat ⟨#[97, 98, 99, 100]⟩) ok c i3 s3) (fun k => ?_) hr, hz⟩
      simp only [spec_DrawPublicFrom.j0]
      rw [if_pos trivial, e3]
      simp only [Option.bind_some]
      rw [if_pos (by omega), if_pos (by omega)]
    | false =>
      obtain ⟨t', l', hr, hz⟩ := j1 ok t l i s ht (by omega) (by omega) hl hok
      refine ⟨t', l', Ev.step (f := fun k => spec_DrawPublicFrom.j1 k t l ok c i s) (fun k => ?_) hr, hz⟩
      simp only [spec_DrawPublicFrom.j0]
      rw [if_neg (by simp)]
  by_cases hg : seedB v ∧ (u.size : Int) ≤ 200
  · have eg : signOnceM v u = (signM v u, true) := if_pos hg
    have hs := signOnceS v u
    rw [eg] at hs
    obtain ⟨b, i3, s3, e3, _, h5, h6⟩ := one_d hc i2 s2 6 (by omega) (by omega) (by omega)
    obtain ⟨t', l', hr, hz⟩ := j0 b true u (signM v u) i3 s3 (by omega) (by omega) (by omega) (by rw [signM_length]; omega) (fun _ => signM_length _ _) (fun _ => signM_length _ _)
    exact ⟨t', l', ev_const e (ev_const e2 (ev_bind hs (ev_pos rfl (ev_const e3 hr)))), hz⟩
  · have eg : signOnceM v u = ([], false) := if_neg hg
    have hs := signOnceS v u
    rw [eg] at hs
    obtain ⟨t', l', hr, hz⟩ := j0 false false u [] i2 s2 (by omega) (by omega) (by omega) (by simp) (fun h => by cases h) (fun h => by cases h)
    exact ⟨t', l', ev_const e (ev_const e2 (ev_bind hs (ev_neg (by simp) hr))), hz⟩
theorem drawCheckOnce {c : List Int} (hc : Bys c) : ∃ q t l, Ev (fun k => spec_DrawCheckOnce.f k c) (q, t, l) ∧ l.length ≤ 11 := by
  obtain ⟨v, i1, s1, e, _, h1, h2⟩ := seedText_d hc 0 0 (by omega) (by omega)
  obtain ⟨t, l, hr, hz⟩ := drawPublicFrom hc
  exact ⟨_, t, l, ev_const e (ev_bind (publicOfS v) (ev_bind hr (Ev.now _))), hz⟩
theorem FnOnce : laws_FnOnce.Pure := by
  intro l0 l1 hl0 hm0 hc0 hl1 hm1 hc1
  refine Ev.rounds ?_
  unfold laws_FnOnce.f
  by_cases hsz : wrap64 ((l0.length : Int) + (l1.length : Int)) > 1048576
  · exact ev_pos hsz (Ev.now _)
  refine ev_neg hsz ?_
  clear hsz
  have c0 := code_of l0 hc0
  have c1 := code_of l1 hc1
  obtain ⟨seed, text, ed⟩ := drawSignOnce c0
  obtain ⟨q, t, l, hq, hql⟩ := drawCheckOnce c1
  obtain ⟨u, m, hu, hum⟩ := drawPublicFrom c1
  obtain ⟨⟨x1, x2⟩, hcS, hcI⟩ := checkOnce_two q t l (by omega)
  obtain ⟨⟨y1, y2⟩, hpS, hpI⟩ := publicFrom_two u m (by omega)
  have j3 : Ev (fun k => laws_FnOnce.j3 k l1) true := by
    refine Ev.step (f := fun k => _) (fun k => by simp only [laws_FnOnce.j3]; rfl) ?_
    exact ev_bind hq (ev_bind hcI (ev_bind hcS (ev_bind hu (ev_bind hpI (ev_bind hpS (ev_pos (by simp) (ev_pos (by simp) (ev_pos (by simp) (ev_eq (Ev.now _) (by simp))))))))))
  have hsl : (signOnceM seed text).1.length ≤ 2000000 := by
    unfold signOnceM
    split
    · show (signM seed text).length ≤ _; rw [signM_length]; omega
    · show ([] : List ByteArray).length ≤ _; simp
  have hkl : (keyPartsM seed).1.length ≤ 2000000 := by
    unfold keyPartsM
    split
    · show (partsM seed).length ≤ _; rw [parts_len]; omega
    · show ([] : List ByteArray).length ≤ _; simp
  refine ev_const ed (ev_bind (signOnceI seed text) (ev_bind (signOnceS seed text) (ev_bind (publicOfI seed) (ev_bind (publicOfS seed) (ev_bind (keyPartsI seed) (ev_bind (keyPartsS seed) (ev_neg (by simp) (ev_bind (sameTexts_yes _ hsl) (ev_pos rfl (ev_neg (by simp) (ev_pos rfl (ev_neg (by simp) (ev_bind (sameTexts_yes _ hkl) ?_)))))))))))))
  simp only [Bool.not_true]
  refine Ev.step (f := fun k => _) (fun k => by simp only [laws_FnOnce.j0]; rfl) ?_
  refine ev_neg (by simp) ?_
  by_cases hg : seedB seed ∧ (text.size : Int) ≤ 200
  · have e1 : signOnceM seed text = (signM seed text, true) := if_pos hg
    have e2 : publicOfM seed = (publicM seed, true) := if_pos hg.1
    have e3 : keyPartsM seed = (partsM seed, true) := if_pos hg.1
    rw [e1, e2, e3]
    have hsg := sign_good seed text hg.2
    have hgd := (okSign_good hsg).2
    have hI := isSignI text (signM seed text) (by rw [signM_length]; omega)
    rw [hsg] at hI
    have hf := fromI text (signM seed text) (by omega) hgd
    rw [from_sign] at hf
    have hpz : (publicM seed).size = 4 := dig_size _ _
    have hco : Ev (fun k => impl_CheckOnce.f k (publicM seed) text (signM seed text)) (true, true) :=
      ev_const (isDigI _) (ev_pos (decide_eq_true hpz) (ev_bind hI (ev_pos rfl (ev_bind hf (ev_eq (Ev.now _) (by simp))))))
    have hpf : Ev (fun k => impl_PublicFrom.f k text (signM seed text)) (publicM seed, true) := ev_bind hI (ev_pos rfl (ev_bind hf (Ev.now _)))
    have hdg := digitsOfI text
    have e4 : digitsOfM text = (digitsM text, true) := if_pos hg.2
    rw [e4] at hdg
    refine ev_pos rfl (ev_bind hco (ev_bind hpf (ev_bind hdg (ev_pos rfl (ev_pos rfl (ev_pos rfl (ev_pos rfl (ev_pos rfl (ev_pos rfl (ev_pos rfl ?_))))))))))
    have hlen : ((partsM seed).length : Int) = ((signM seed text).length : Int) := by rw [parts_len, signM_length]
    rw [hlen]
    simp only [bne_self_eq_false]
    refine Ev.step (f := fun k => laws_FnOnce.l0 k l1 (signM seed text) (partsM seed) (digitsM text) ((signM seed text).length : Int) ((0 : Nat) : Int)) (fun k => by simp only [laws_FnOnce.j1]; rw [if_neg (by simp)]; rfl) ?_
    have hs11 := signM_length seed text
    have hp11 := parts_len seed
    have hd11 := digitsM_length text
    have key : ∀ (d i : Nat), i + d = 11 → Ev (fun k => laws_FnOnce.l0 k l1 (signM seed text) (partsM seed) (digitsM text) ((signM seed text).length : Int) (i : Int)) true := by
      intro d
      induction d with
      | zero =>
        intro i hi
        exact Ev.step (f := fun k => laws_FnOnce.j3 k l1) (fun k => by simp only [laws_FnOnce.l0]; rw [if_neg (by omega)]) j3
      | succ d ih =>
        intro i hi
        have hr := rd_digits text i (by omega)
        have hch := chainOfI (keyM seed i) 0 (rd (digitsM text) (i : Int))
        have e5 : chainOfM (keyM seed i) 0 (rd (digitsM text) (i : Int)) = (signAt seed text i, true) := by
          unfold chainOfM
          rw [if_pos ⟨keyM_size _ _, by omega, by omega⟩]
          rfl
        rw [e5] at hch
        have e6 : rdOf ByteArray.empty (signM seed text) (i : Int) = signAt seed text i := by rw [rdOf_getD]; exact sign_at seed text i (by omega)
        refine Ev.step (f := fun k => (impl_ChainOf.f k (keyM seed i) 0 (rd (digitsM text) (i : Int))).bind fun b => if b.2 = true then (if b.1.toList = (signAt seed text i).toList then laws_FnOnce.l0 k l1 (signM seed text) (partsM seed) (digitsM text) ((signM seed text).length : Int) ((i + 1 : Nat) : Int) else some false) else some false) (fun k => ?_) (ev_bind hch (ev_pos rfl (ev_pos rfl (ih (i + 1) (by omega)))))
        simp only [laws_FnOnce.l0]
        rw [if_pos (by omega), if_pos (by omega), if_pos (by omega), if_pos (by omega), parts_at seed i (by omega), e6, w64 (x := (i : Int) + 1) (by omega) (by omega)]
        congr 1
        funext b
        rw [if_pos (show (i : Int) < ((signM seed text).length : Int) by omega)]
        rfl
    exact key 11 0 (by omega)
  · have e1 : signOnceM seed text = ([], false) := if_neg hg
    rw [e1]
    exact ev_neg (by simp) j3
end Go.Proofs.Ytfajabboibcgpaa.Pure
end
