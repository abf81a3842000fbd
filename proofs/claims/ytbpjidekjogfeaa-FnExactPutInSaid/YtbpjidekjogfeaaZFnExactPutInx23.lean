/- What the proof of the law FnExactPutIn uses: lemmas, the Lean functions of the Go functions that it reaches, their contracts, and the pure statement's proof. -/
import Derived.Test.YtbpjidekjogfeaaZFnExactPutInx14
import Derived.Test.YtbpjidekjogfeaaZFnExactPutInx15
import Derived.Test.YtbpjidekjogfeaaZFnExactPutInx17
import Derived.Test.YtbpjidekjogfeaaZFnExactPutInx19
import Derived.Test.YtbpjidekjogfeaaZFnExactPutInx22
import Derived.Test.YtbpjidekjogfeaaZFnExactPutInh
namespace Go.Proofs.Ytbpjidekjogfeaa.A
open Go.RowKit Go.Proofs.YtbpjidekjogfeaaW.PrintWords Go.Proofs.YtbpjidekjogfeaaW.PrintLast Go.Proofs.YtbpjidekjogfeaaW.PrintMore
attribute [local go_sem] max2_int min2_int max_two min_two max_three min_three max_four min_four   
set_option linter.unusedVariables false
set_option linter.unusedSimpArgs false
mutual
def laws_FnExactPutIn.j0 : Nat → Int → Int → Int → Bool → Int → Bool → Bool → Int → List Int → List (S123) → Int → List Int → List (S98) → Int → List Int → List (S98) → Int → List Int → List (S98) → Option (Bool)
 | 0, _, _, _, _, _, _, _, _, _, _, _, _, _, _, _, _, _, _, _ => none
 | k + 1, x1, x2, x9, x10, x13, x14, x58, x892000, x892001, x892002, x910000, x910001, x910002, x918000, x918001, x918002, x928000, x928001, x928002 => if x58 = true then (some false) else ((laws_toColumn.f k x892000 x892001 x892002).bind fun bt929 => ((laws_eqColumn.f k x918000 x918001 x918002 bt929.1 bt929.2.1 bt929.2.2).bind fun t936 => (if t936 = true then ((laws_markColumn.f k x918000 x918001 x918002 1).bind fun bt937 => (if bt937.1 < 0 then (laws_FnExactPutIn.j1 k x1 x2 x9 x10 true x892000 x892001 x892002 x910000 x910001 x910002 x928000 x928001 x928002) else ((laws_eqColumn.f k x928000 x928001 x928002 x910000 x910001 x910002).bind fun t940 => (if t940 = true then (if x13 = x9 then (laws_FnExactPutIn.j1 k x1 x2 x9 x10 (x14 != x10) x892000 x892001 x892002 x910000 x910001 x910002 x928000 x928001 x928002) else (laws_FnExactPutIn.j1 k x1 x2 x9 x10 true x892000 x892001 x892002 x910000 x910001 x910002 x928000 x928001 x928002)) else (laws_FnExactPutIn.j1 k x1 x2 x9 x10 true x892000 x892001 x892002 x910000 x910001 x910002 x928000 x928001 x928002))))) else (some false))))
def laws_FnExactPutIn.j1 : Nat → Int → Int → Int → Bool → Bool → Int → List Int → List (S123) → Int → List Int → List (S98) → Int → List Int → List (S98) → Option (Bool)
 | 0, _, _, _, _, _, _, _, _, _, _, _, _, _, _ => none
 | k + 1, x1, x2, x9, x10, x84, x892000, x892001, x892002, x910000, x910001, x910002, x928000, x928001, x928002 => if x84 = true then (some false) else ((laws_markColumn.f k x928000 x928001 x928002 1).bind fun bt941 => ((laws_heldColumn.f k x928000 bt941.2.1 bt941.2.2 1).bind fun t944 => (if t944 < 0 then (some false) else (if t944 = bt941.1 then ((laws_toColumn.f k x892000 x892001 x892002).bind fun bt945 => ((impl_PutIn.f k bt945.1 bt945.2.1 bt945.2.2 x1 x2).bind fun bt952 => ((laws_eqColumn.f k bt952.1 bt952.2.1 bt952.2.2.1 x910000 x910001 x910002).bind fun t962 => (if t962 = true then (if bt952.2.2.2.1 = x9 then (laws_FnExactPutIn.j2 k bt941.1 (bt952.2.2.2.2 != x10) x928000 bt941.2.1 bt941.2.2) else (laws_FnExactPutIn.j2 k bt941.1 true x928000 bt941.2.1 bt941.2.2)) else (laws_FnExactPutIn.j2 k bt941.1 true x928000 bt941.2.1 bt941.2.2))))) else (some false)))))
def laws_FnExactPutIn.j2 : Nat → Int → Bool → Int → List Int → List (S98) → Option (Bool)
 | 0, _, _, _, _, _ => none
 | k + 1, x16, x118, x928000, x928001, x928002 => if x118 = true then (some false) else ((laws_heldColumn.f k x928000 x928001 x928002 1).bind fun t963 => (if t963 < 0 then (some false) else (if t963 = x16 then (some true) else (some false))))
end
def laws_FnExactPutIn.f (k : Nat) (a0_0 : Int) (l0_1 : List Int) (l0_2 : List (S123)) (a1 : Int) (a2 : Int) : Option (Bool) := (laws_szColumn.f a0_0 l0_1 l0_2 1048576).bind fun t892 => (if t892 < 0 then (some true) else ((laws_toColumn.f k a0_0 l0_1 l0_2).bind fun bt893 => ((spec_PutIn.f k bt893.1 bt893.2.1 bt893.2.2 a1 a2).bind fun bt900 => ((laws_toColumn.f k a0_0 l0_1 l0_2).bind fun bt910 => ((impl_PutIn.f k bt910.1 bt910.2.1 bt910.2.2 a1 a2).bind fun bt918 => ((laws_eqColumn.f k bt918.1 bt918.2.1 bt918.2.2.1 bt900.1 bt900.2.1 bt900.2.2.1).bind fun t928 => (if t928 = true then (if bt918.2.2.2.1 = bt900.2.2.2.1 then (laws_FnExactPutIn.j0 k a1 a2 bt900.2.2.2.1 bt900.2.2.2.2 bt918.2.2.2.1 bt918.2.2.2.2 (bt918.2.2.2.2 != bt900.2.2.2.2) a0_0 l0_1 l0_2 bt900.1 bt900.2.1 bt900.2.2.1 bt910.1 bt910.2.1 bt910.2.2 bt918.1 bt918.2.1 bt918.2.2.1) else (laws_FnExactPutIn.j0 k a1 a2 bt900.2.2.2.1 bt900.2.2.2.2 bt918.2.2.2.1 bt918.2.2.2.2 true a0_0 l0_1 l0_2 bt900.1 bt900.2.1 bt900.2.2.1 bt910.1 bt910.2.1 bt910.2.2 bt918.1 bt918.2.1 bt918.2.2.1)) else (laws_FnExactPutIn.j0 k a1 a2 bt900.2.2.2.1 bt900.2.2.2.2 bt918.2.2.2.1 bt918.2.2.2.2 true a0_0 l0_1 l0_2 bt900.1 bt900.2.1 bt900.2.2.1 bt910.1 bt910.2.1 bt910.2.2 bt918.1 bt918.2.1 bt918.2.2.1))))))))
set_option maxHeartbeats 8000000 in
set_option maxRecDepth 100000 in
theorem laws_FnExactPutIn.calls (k : Nat) (a0_0 : Int) (A0_1 : Option Addr) (c0_1 : Nat) (l0_1 : List Int) (A0_2 : Option Addr) (c0_2 : Nat) (l0_2 : List (S123)) (a1 : Int) (a2 : Int) (r : Bool) (w : World) (hr0_1 : Kd.C (Kd.int .i64) w A0_1 l0_1.length l0_1) (hc0_1 : l0_1.length ≤ c0_1) (hr0_2 : Kd.C k123 w A0_2 l0_2.length l0_2) (hc0_2 : l0_2.length ≤ c0_2) (hr_ : Aside0 (r = true)) (h : laws_FnExactPutIn.f k a0_0 l0_1 l0_2 a1 a2 = some r) :
  Calls Try.prog 6 #[.agg #[.int .i64 a0_0, .slice A0_1 l0_1.length c0_1, .slice A0_2 l0_2.length c0_2], .int .i64 a1, .int .i64 a2] w fun e w' => e = .returned (.bool r) ∧ Below w.heap.size w w' := by
 have hu58 := Try.underlying58
 have hu41 := Try.underlying41
 have HR0_1 := Aside0.mk hr0_1
 have HC0_1 := Aside0.mk hc0_1
 clear hr0_1 hc0_1
 have HR0_2 := Aside0.mk hr0_2
 have HC0_2 := Aside0.mk hc0_2
 clear hr0_2 hc0_2
 have HB := Aside0.mk (Below.refl w.heap.size w)
 have H : ((laws_szColumn.f a0_0 l0_1 l0_2 1048576).bind fun t892 => (if t892 < 0 then (some true) else ((laws_toColumn.f k a0_0 l0_1 l0_2).bind fun bt893 => ((spec_PutIn.f k bt893.1 bt893.2.1 bt893.2.2 a1 a2).bind fun bt900 => ((laws_toColumn.f k a0_0 l0_1 l0_2).bind fun bt910 => ((impl_PutIn.f k bt910.1 bt910.2.1 bt910.2.2 a1 a2).bind fun bt918 => ((laws_eqColumn.f k bt918.1 bt918.2.1 bt918.2.2.1 bt900.1 bt900.2.1 bt900.2.2.1).bind fun t928 => (if t928 = true then (if bt918.2.2.2.1 = bt900.2.2.2.1 then (laws_FnExactPutIn.j0 k a1 a2 bt900.2.2.2.1 bt900.2.2.2.2 bt918.2.2.2.1 bt918.2.2.2.2 (bt918.2.2.2.2 != bt900.2.2.2.2) a0_0 l0_1 l0_2 bt900.1 bt900.2.1 bt900.2.2.1 bt910.1 bt910.2.1 bt910.2.2 bt918.1 bt918.2.1 bt918.2.2.1) else (laws_FnExactPutIn.j0 k a1 a2 bt900.2.2.2.1 bt900.2.2.2.2 bt918.2.2.2.1 bt918.2.2.2.2 true a0_0 l0_1 l0_2 bt900.1 bt900.2.1 bt900.2.2.1 bt910.1 bt910.2.1 bt910.2.2 bt918.1 bt918.2.1 bt918.2.2.1)) else (laws_FnExactPutIn.j0 k a1 a2 bt900.2.2.2.1 bt900.2.2.2.2 bt918.2.2.2.1 bt918.2.2.2.2 true a0_0 l0_1 l0_2 bt900.1 bt900.2.1 bt900.2.2.1 bt910.1 bt910.2.1 bt910.2.2 bt918.1 bt918.2.1 bt918.2.2.1))))))))) = some r := h
 clear h
 replace H := Option.bind_eq_some_iff.mp H
 obtain ⟨t892, A40, H⟩ := H
 try dsimp only at H
 have A4 := Aside0.mk A40
 clear A40
 by_cases c5 : t892 < 0
 ·rw [if_pos c5] at H
  have c5b0 : decide (t892 < 0) = true := decide_eq_true c5
  clear c5
  obtain rfl := Option.some.inj H
  go_enter Try.func6, Try.ntmps6
  go_wp2_with (first | ((with_reducible refine gate_dst (N := 3) rfl ?_); refine bx (cs := #[.int .i64 a0_0, .slice A0_1 l0_1.length c0_1, .slice A0_2 l0_2.length c0_2]) (t := 58) fun gb891 hg w6 hbox hb => ?_; have BK891 := Aside0.mk (hbox); have GW891 := Aside0.mk (gs HB.out hg); have GE891 := Aside0.mk (gs HB.out hg); replace HB := Aside0.mk (below_step (bl HB.out) hb); clear hb hbox hg; obtain ⟨hcz7_0, hcz7_1, hcz7_2, hfz7_0, hfz7_1, hfz7_2⟩ := cz3 BK891.out) | ((with_reducible refine gate_callee (f := 37) rfl ?_); refine goesL_ (some 23) rfl rfl Try.func37 (by kernel_rfl) rfl #[.agg #[.int .i64 a0_0, .slice A0_1 l0_1.length c0_1, .slice A0_2 l0_2.length c0_2], .int .i64 1048576] rfl mapd ?_; (with_reducible refine (laws_szColumn.calls a0_0 _ _ l0_1 _ _ l0_2 1048576 t892 _ ?side1 ?side2 ?side3 ?side4 A4.out).mono ?_); (case side1 => exact cb (Kd.C_below HR0_1.out HB.out)); (case side2 => exact HC0_1.out); (case side3 => exact cb (Kd.C_below HR0_2.out HB.out)); (case side4 => exact HC0_2.out); rintro e w8 ⟨rfl, hb⟩; refine ⟨_, rfl, ?_⟩; replace BK891 := Aside0.mk (bb BK891.out hb); replace HB := Aside0.mk (below_step (bl HB.out) hb); (try clear hb); (try clear hb2); (try clear hk); (try clear hi)))
  go_ret
  exact ⟨by first | rfl | (simp [errW_none, errW_some] <;> rfl) | (simp [*, errW_none, errW_some] <;> rfl), bl HB.out⟩
 ·rw [if_neg c5] at H
  have c5b0 : decide (t892 < 0) = false := decide_eq_false c5
  clear c5
  replace H := Option.bind_eq_some_iff.mp H
  obtain ⟨⟨t893, t894, t897⟩, A90, H⟩ := H
  try dsimp only at H
  have A9 := Aside0.mk A90
  clear A90
  replace H := Option.bind_eq_some_iff.mp H
  obtain ⟨⟨t900, t901, t904, t907, t908⟩, A100, H⟩ := H
  try dsimp only at H
  have A10 := Aside0.mk A100
  clear A100
  replace H := Option.bind_eq_some_iff.mp H
  obtain ⟨⟨t910, t911, t914⟩, A110, H⟩ := H
  try dsimp only at H
  have A11 := Aside0.mk A110
  clear A110
  replace H := Option.bind_eq_some_iff.mp H
  obtain ⟨⟨t918, t919, t922, t925, t926⟩, A120, H⟩ := H
  try dsimp only at H
  have A12 := Aside0.mk A120
  clear A120
  have HC13 := Aside0.mk H
  clear H
  go_enter Try.func6, Try.ntmps6
  go_upto_region 8 with (first | ((with_reducible refine gate_dst (N := 3) rfl ?_); refine bx (cs := #[.int .i64 a0_0, .slice A0_1 l0_1.length c0_1, .slice A0_2 l0_2.length c0_2]) (t := 58) fun gb891 hg w14 hbox hb => ?_; have BK891 := Aside0.mk (hbox); have GW891 := Aside0.mk (gs HB.out hg); have GE891 := Aside0.mk (gs HB.out hg); replace HB := Aside0.mk (below_step (bl HB.out) hb); clear hb hbox hg; obtain ⟨hcz15_0, hcz15_1, hcz15_2, hfz15_0, hfz15_1, hfz15_2⟩ := cz3 BK891.out) | ((with_reducible refine gate_callee (f := 37) rfl ?_); refine goesL_ (some 23) rfl rfl Try.func37 (by kernel_rfl) rfl #[.agg #[.int .i64 a0_0, .slice A0_1 l0_1.length c0_1, .slice A0_2 l0_2.length c0_2], .int .i64 1048576] rfl mapd ?_; (with_reducible refine (laws_szColumn.calls a0_0 _ _ l0_1 _ _ l0_2 1048576 t892 _ ?side1 ?side2 ?side3 ?side4 A4.out).mono ?_); (case side1 => exact cb (Kd.C_below HR0_1.out HB.out)); (case side2 => exact HC0_1.out); (case side3 => exact cb (Kd.C_below HR0_2.out HB.out)); (case side4 => exact HC0_2.out); rintro e w16 ⟨rfl, hb⟩; refine ⟨_, rfl, ?_⟩; replace BK891 := Aside0.mk (bb BK891.out hb); replace HB := Aside0.mk (below_step (bl HB.out) hb); (try clear hb); (try clear hb2); (try clear hk); (try clear hi); obtain ⟨hcz17_0, hcz17_1, hcz17_2, hfz17_0, hfz17_1, hfz17_2⟩ := cz3 BK891.out) | ((with_reducible refine gate_callee (f := 38) rfl ?_); refine goesL_ (some 28) rfl rfl Try.func38 (by kernel_rfl) rfl #[.agg #[.int .i64 a0_0, .slice A0_1 l0_1.length c0_1, .slice A0_2 l0_2.length c0_2]] rfl mapd ?_; (with_reducible refine (laws_toColumn.calls k a0_0 _ _ l0_1 _ _ l0_2 t893 t894 t897 _ ?side1 ?side2 ?side3 ?side4 A9.out).mono ?_); (case side1 => exact cb (Kd.C_below HR0_1.out HB.out)); (case side2 => exact HC0_1.out); (case side3 => exact cb (Kd.C_below HR0_2.out HB.out)); (case side4 => exact HC0_2.out); rintro e w18 ⟨v895, v898, rfl, ho0, ho1, hb⟩; refine ⟨_, rfl, ?_⟩; have HO896 := Aside0.mk (Kd.R_lower ho0 (below_size (bl HB.out))); have HO899 := Aside0.mk (Kd.R_lower ho1 (below_size (bl HB.out))); replace BK891 := Aside0.mk (bb BK891.out hb); replace HB := Aside0.mk (below_step (bl HB.out) hb); (try clear hb); (try clear hb2); (try clear hk); (try clear hi); (try clear ho0); (try clear ho1); obtain ⟨Ao19, co19, eo19⟩ := Kd.R_slice HO896.out; subst eo19; obtain ⟨Ao20, co20, eo20⟩ := Kd.R_slice HO899.out; subst eo20) | ((with_reducible refine gate_callee (f := 30) rfl ?_); refine goesL_ (some 31) rfl rfl Try.func30 (by kernel_rfl) rfl #[.agg #[.int .i64 t893, .slice Ao19 t894.length co19, .slice Ao20 t897.length co20], .int .i64 a1, .int .i64 a2] rfl mapd ?_; (with_reducible refine (spec_PutIn.calls k t893 _ _ t894 _ _ t897 a1 a2 t900 t901 t904 t907 t908 _ ?side1 ?side2 ?side3 ?side4 A10.out).mono ?_); (case side1 => exact cb ((Kd.R_reads' HO896.out).2.2)); (case side2 => exact (Kd.R_reads' HO896.out).2.1); (case side3 => exact cb ((Kd.R_reads' HO899.out).2.2)); (case side4 => exact (Kd.R_reads' HO899.out).2.1); rintro e w21 ⟨v902, v905, rfl, ho0, ho1, hb⟩; refine ⟨_, rfl, ?_⟩; have HO903 := Aside0.mk (Kd.R_lower (Kd.R_new' ho0 (Kd.R_lt (rk HO896.out))) (below_size (bl HB.out))); replace HO896 := Aside0.mk (Kd.R_elder' (rk HO896.out) (Kd.R_base ho0) hb); have HO906 := Aside0.mk (Kd.R_lower (Kd.R_new' ho1 (Kd.R_lt (rk HO899.out))) (below_size (bl HB.out))); replace HO899 := Aside0.mk (Kd.R_elder' (rk HO899.out) (Kd.R_base ho1) hb); replace BK891 := Aside0.mk (bb BK891.out hb); replace HB := Aside0.mk (below_step (bl HB.out) hb); (try clear hb); (try clear hb2); (try clear hk); (try clear hi); (try clear ho0); (try clear ho1)) | ((with_reducible refine gate_dst (N := 8) rfl ?_); refine bx (cs := #[.int .i64 0, .slice none 0 0, .slice none 0 0]) (t := 41) fun gb909 hg w22 hbox hb => ?_; replace HO896 := Aside0.mk (Kd.R_below (rk HO896.out) hb); replace HO899 := Aside0.mk (Kd.R_below (rk HO899.out) hb); replace HO903 := Aside0.mk (Kd.R_below (rk HO903.out) hb); replace HO906 := Aside0.mk (Kd.R_below (rk HO906.out) hb); have BK909 := Aside0.mk (hbox); have GW909 := Aside0.mk (gs HB.out hg); have GE909 := Aside0.mk (gs HB.out hg); replace HB := Aside0.mk (below_step (bl HB.out) hb); have NB891_909 := Aside0.mk ((nl BK891.out hg)); have NB909_891 := Aside0.mk ((ng BK891.out hg)); replace BK891 := Aside0.mk (bb BK891.out hb); clear hb hbox hg; have hnb23 := NB909_891.out; have hnc23 := NB891_909.out; obtain ⟨hcz24_0, hcz24_1, hcz24_2, hfz24_0, hfz24_1, hfz24_2⟩ := cz3 BK909.out; obtain ⟨Ao25, co25, eo25⟩ := Kd.R_slice HO903.out; subst eo25; obtain ⟨Ao26, co26, eo26⟩ := Kd.R_slice HO906.out; subst eo26; obtain ⟨hcz27_0, hcz27_1, hcz27_2, hfz27_0, hfz27_1, hfz27_2⟩ := cz3 BK891.out) | ((with_reducible refine gate_callee (f := 38) rfl ?_); refine goesL_ (some 36) rfl rfl Try.func38 (by kernel_rfl) rfl #[.agg #[.int .i64 a0_0, .slice A0_1 l0_1.length c0_1, .slice A0_2 l0_2.length c0_2]] rfl mapd ?_; (with_reducible refine (laws_toColumn.calls k a0_0 _ _ l0_1 _ _ l0_2 t910 t911 t914 _ ?side1 ?side2 ?side3 ?side4 A11.out).mono ?_); (case side1 => exact Kd.C_below HR0_1.out (bl HB.out)); (case side2 => exact HC0_1.out); (case side3 => exact Kd.C_below HR0_2.out (bl HB.out)); (case side4 => exact HC0_2.out); rintro e w28 ⟨v912, v915, rfl, ho0, ho1, hb⟩; refine ⟨_, rfl, ?_⟩; have HO913 := Aside0.mk (Kd.R_lower (Kd.R_new' (Kd.R_new' ho0 (Kd.R_lt (by refine rk ?_; exact (Kd.R_mono (Kd.R_far (p := ⟨gb909, 2, none⟩) (Kd.R_far (p := ⟨gb909, 1, none⟩) (Kd.R_far (p := ⟨gb909, 0, none⟩) (Kd.R_types HO896.out BK909.out (by decide)) (fun _ hk => hk.2) (.int .i64 t900)) (fun _ hk => hk.2) (.slice Ao25 t901.length co25)) (fun _ hk => hk.2) (.slice Ao26 t904.length co26)) (fun _ h_ => h_.1))))) (Kd.R_lt (by refine rk ?_; exact (Kd.R_mono (Kd.R_far (p := ⟨gb909, 2, none⟩) (Kd.R_far (p := ⟨gb909, 1, none⟩) (Kd.R_far (p := ⟨gb909, 0, none⟩) (Kd.R_types HO903.out BK909.out (by decide)) (fun _ hk => hk.2) (.int .i64 t900)) (fun _ hk => hk.2) (.slice Ao25 t901.length co25)) (fun _ hk => hk.2) (.slice Ao26 t904.length co26)) (fun _ h_ => h_.1))))) (below_size (bl HB.out))); replace HO896 := Aside0.mk (Kd.R_elder' (by refine rk ?_; exact (Kd.R_mono (Kd.R_far (p := ⟨gb909, 2, none⟩) (Kd.R_far (p := ⟨gb909, 1, none⟩) (Kd.R_far (p := ⟨gb909, 0, none⟩) (Kd.R_types HO896.out BK909.out (by decide)) (fun _ hk => hk.2) (.int .i64 t900)) (fun _ hk => hk.2) (.slice Ao25 t901.length co25)) (fun _ hk => hk.2) (.slice Ao26 t904.length co26)) (fun _ h_ => h_.1))) (Kd.R_base ho0) hb); replace HO903 := Aside0.mk (Kd.R_elder' (by refine rk ?_; exact (Kd.R_mono (Kd.R_far (p := ⟨gb909, 2, none⟩) (Kd.R_far (p := ⟨gb909, 1, none⟩) (Kd.R_far (p := ⟨gb909, 0, none⟩) (Kd.R_types HO903.out BK909.out (by decide)) (fun _ hk => hk.2) (.int .i64 t900)) (fun _ hk => hk.2) (.slice Ao25 t901.length co25)) (fun _ hk => hk.2) (.slice Ao26 t904.length co26)) (fun _ h_ => h_.1))) (Kd.R_base ho0) hb); have HO916 := Aside0.mk (Kd.R_lower (Kd.R_new' (Kd.R_new' ho1 (Kd.R_lt (by refine rk ?_; exact (Kd.R_mono (Kd.R_far (p := ⟨gb909, 2, none⟩) (Kd.R_far (p := ⟨gb909, 1, none⟩) (Kd.R_far (p := ⟨gb909, 0, none⟩) (Kd.R_types HO899.out BK909.out (by decide)) (fun _ hk => hk.2) (.int .i64 t900)) (fun _ hk => hk.2) (.slice Ao25 t901.length co25)) (fun _ hk => hk.2) (.slice Ao26 t904.length co26)) (fun _ h_ => h_.1))))) (Kd.R_lt (by refine rk ?_; exact (Kd.R_mono (Kd.R_far (p := ⟨gb909, 2, none⟩) (Kd.R_far (p := ⟨gb909, 1, none⟩) (Kd.R_far (p := ⟨gb909, 0, none⟩) (Kd.R_types HO906.out BK909.out (by decide)) (fun _ hk => hk.2) (.int .i64 t900)) (fun _ hk => hk.2) (.slice Ao25 t901.length co25)) (fun _ hk => hk.2) (.slice Ao26 t904.length co26)) (fun _ h_ => h_.1))))) (below_size (bl HB.out))); replace HO899 := Aside0.mk (Kd.R_elder' (by refine rk ?_; exact (Kd.R_mono (Kd.R_far (p := ⟨gb909, 2, none⟩) (Kd.R_far (p := ⟨gb909, 1, none⟩) (Kd.R_far (p := ⟨gb909, 0, none⟩) (Kd.R_types HO899.out BK909.out (by decide)) (fun _ hk => hk.2) (.int .i64 t900)) (fun _ hk => hk.2) (.slice Ao25 t901.length co25)) (fun _ hk => hk.2) (.slice Ao26 t904.length co26)) (fun _ h_ => h_.1))) (Kd.R_base ho1) hb); replace HO906 := Aside0.mk (Kd.R_elder' (by refine rk ?_; exact (Kd.R_mono (Kd.R_far (p := ⟨gb909, 2, none⟩) (Kd.R_far (p := ⟨gb909, 1, none⟩) (Kd.R_far (p := ⟨gb909, 0, none⟩) (Kd.R_types HO906.out BK909.out (by decide)) (fun _ hk => hk.2) (.int .i64 t900)) (fun _ hk => hk.2) (.slice Ao25 t901.length co25)) (fun _ hk => hk.2) (.slice Ao26 t904.length co26)) (fun _ h_ => h_.1))) (Kd.R_base ho1) hb); replace BK891 := Aside0.mk (blk_below (g := gb891) (o := .cells #[.int .i64 a0_0, .slice A0_1 l0_1.length c0_1, .slice A0_2 l0_2.length c0_2] 58 (0, 0)) (bf BK891.out) hb); replace BK909 := Aside0.mk (blk_below (g := gb909) (o := .cells #[.int .i64 t900, .slice Ao25 t901.length co25, .slice Ao26 t904.length co26] 41 (0, 0)) (by refine bk ?_; refine blk_put (cs := #[.int .i64 t900, .slice Ao25 t901.length co25, .slice none 0 0]) ?_ 2 _ rfl; refine bk ?_; refine blk_put (cs := #[.int .i64 t900, .slice none 0 0, .slice none 0 0]) ?_ 1 _ rfl; refine bk ?_; refine blk_put (cs := #[.int .i64 0, .slice none 0 0, .slice none 0 0]) ?_ 0 _ rfl; refine bk ?_; exact BK909.out) hb); replace HB := Aside0.mk (below_step (bl HB.out) hb); (try clear hb); (try clear hb2); (try clear hk); (try clear hi); (try clear ho0); (try clear ho1)) | ((with_reducible refine gate_dst (N := 11) rfl ?_); refine bx (cs := #[.int .i64 0, .slice none 0 0, .slice none 0 0]) (t := 41) fun gb917 hg w29 hbox hb => ?_; replace HO896 := Aside0.mk (Kd.R_below (rk HO896.out) hb); replace HO899 := Aside0.mk (Kd.R_below (rk HO899.out) hb); replace HO903 := Aside0.mk (Kd.R_below (rk HO903.out) hb); replace HO906 := Aside0.mk (Kd.R_below (rk HO906.out) hb); replace HO913 := Aside0.mk (Kd.R_below (rk HO913.out) hb); replace HO916 := Aside0.mk (Kd.R_below (rk HO916.out) hb); have BK917 := Aside0.mk (hbox); have GW917 := Aside0.mk (gs HB.out hg); have GE917 := Aside0.mk (gs HB.out hg); replace HB := Aside0.mk (below_step (bl HB.out) hb); have NB891_917 := Aside0.mk ((nl BK891.out hg)); have NB917_891 := Aside0.mk ((ng BK891.out hg)); replace BK891 := Aside0.mk (bb BK891.out hb); have NB909_917 := Aside0.mk ((nl BK909.out hg)); have NB917_909 := Aside0.mk ((ng BK909.out hg)); replace BK909 := Aside0.mk (bb BK909.out hb); clear hb hbox hg; have hnb30 := NB917_891.out; have hnc30 := NB891_917.out; have hnb31 := NB917_909.out; have hnc31 := NB909_917.out; obtain ⟨hcz32_0, hcz32_1, hcz32_2, hfz32_0, hfz32_1, hfz32_2⟩ := cz3 BK917.out; obtain ⟨Ao33, co33, eo33⟩ := Kd.R_slice HO913.out; subst eo33; obtain ⟨Ao34, co34, eo34⟩ := Kd.R_slice HO916.out; subst eo34) | ((with_reducible refine gate_callee (f := 29) rfl ?_); refine goesL_ (some 41) rfl rfl Try.func29 (by kernel_rfl) rfl #[.agg #[.int .i64 t910, .slice Ao33 t911.length co33, .slice Ao34 t914.length co34], .int .i64 a1, .int .i64 a2] rfl mapd ?_; (with_reducible refine (impl_PutIn.calls k t910 _ _ t911 _ _ t914 a1 a2 t918 t919 t922 t925 t926 _ ?side1 ?side2 ?side3 ?side4 A12.out).mono ?_); (case side1 => refine (Kd.R_reads' (e := 3) (base := w.heap.size) (ok := fun k_ => ((True ∧ some k_ ≠ (.slice Ao19 t894.length co19 : Value).ownBlock) ∧ some k_ ≠ (.slice Ao25 t901.length co25 : Value).ownBlock)) (n := t911.length) (c := co33) ?_).2.2; exact (by refine rk ?_; exact (Kd.R_mono (Kd.R_far (p := ⟨gb917, 2, none⟩) (Kd.R_far (p := ⟨gb917, 1, none⟩) (Kd.R_far (p := ⟨gb917, 0, none⟩) (Kd.R_types HO913.out BK917.out (by decide)) (fun _ hk => hk.2) (.int .i64 t910)) (fun _ hk => hk.2) (.slice Ao33 t911.length co33)) (fun _ hk => hk.2) (.slice Ao34 t914.length co34)) (fun _ h_ => h_.1)))); (case side2 => exact (Kd.R_reads' HO913.out).2.1); (case side3 => refine (Kd.R_reads' (e := 98) (base := w.heap.size) (ok := fun k_ => ((True ∧ some k_ ≠ (.slice Ao20 t897.length co20 : Value).ownBlock) ∧ some k_ ≠ (.slice Ao26 t904.length co26 : Value).ownBlock)) (n := t914.length) (c := co34) ?_).2.2; exact (by refine rk ?_; exact (Kd.R_mono (Kd.R_far (p := ⟨gb917, 2, none⟩) (Kd.R_far (p := ⟨gb917, 1, none⟩) (Kd.R_far (p := ⟨gb917, 0, none⟩) (Kd.R_types HO916.out BK917.out (by decide)) (fun _ hk => hk.2) (.int .i64 t910)) (fun _ hk => hk.2) (.slice Ao33 t911.length co33)) (fun _ hk => hk.2) (.slice Ao34 t914.length co34)) (fun _ h_ => h_.1)))); (case side4 => exact (Kd.R_reads' HO916.out).2.1); rintro e w35 ⟨v920, v923, rfl, ho0, ho1, hb⟩; refine ⟨_, rfl, ?_⟩; have HO921 := Aside0.mk (Kd.R_lower (Kd.R_new' (Kd.R_new' (Kd.R_new' ho0 (Kd.R_lt (by refine rk ?_; exact (Kd.R_mono (Kd.R_far (p := ⟨gb917, 2, none⟩) (Kd.R_far (p := ⟨gb917, 1, none⟩) (Kd.R_far (p := ⟨gb917, 0, none⟩) (Kd.R_types HO896.out BK917.out (by decide)) (fun _ hk => hk.2) (.int .i64 t910)) (fun _ hk => hk.2) (.slice Ao33 t911.length co33)) (fun _ hk => hk.2) (.slice Ao34 t914.length co34)) (fun _ h_ => h_.1))))) (Kd.R_lt (by refine rk ?_; exact (Kd.R_mono (Kd.R_far (p := ⟨gb917, 2, none⟩) (Kd.R_far (p := ⟨gb917, 1, none⟩) (Kd.R_far (p := ⟨gb917, 0, none⟩) (Kd.R_types HO903.out BK917.out (by decide)) (fun _ hk => hk.2) (.int .i64 t910)) (fun _ hk => hk.2) (.slice Ao33 t911.length co33)) (fun _ hk => hk.2) (.slice Ao34 t914.length co34)) (fun _ h_ => h_.1))))) (Kd.R_lt (by refine rk ?_; exact (Kd.R_mono (Kd.R_far (p := ⟨gb917, 2, none⟩) (Kd.R_far (p := ⟨gb917, 1, none⟩) (Kd.R_far (p := ⟨gb917, 0, none⟩) (Kd.R_types HO913.out BK917.out (by decide)) (fun _ hk => hk.2) (.int .i64 t910)) (fun _ hk => hk.2) (.slice Ao33 t911.length co33)) (fun _ hk => hk.2) (.slice Ao34 t914.length co34)) (fun _ h_ => h_.1))))) (below_size (bl HB.out))); replace HO896 := Aside0.mk (Kd.R_elder' (by refine rk ?_; exact (Kd.R_mono (Kd.R_far (p := ⟨gb917, 2, none⟩) (Kd.R_far (p := ⟨gb917, 1, none⟩) (Kd.R_far (p := ⟨gb917, 0, none⟩) (Kd.R_types HO896.out BK917.out (by decide)) (fun _ hk => hk.2) (.int .i64 t910)) (fun _ hk => hk.2) (.slice Ao33 t911.length co33)) (fun _ hk => hk.2) (.slice Ao34 t914.length co34)) (fun _ h_ => h_.1))) (Kd.R_base ho0) hb); replace HO903 := Aside0.mk (Kd.R_elder' (by refine rk ?_; exact (Kd.R_mono (Kd.R_far (p := ⟨gb917, 2, none⟩) (Kd.R_far (p := ⟨gb917, 1, none⟩) (Kd.R_far (p := ⟨gb917, 0, none⟩) (Kd.R_types HO903.out BK917.out (by decide)) (fun _ hk => hk.2) (.int .i64 t910)) (fun _ hk => hk.2) (.slice Ao33 t911.length co33)) (fun _ hk => hk.2) (.slice Ao34 t914.length co34)) (fun _ h_ => h_.1))) (Kd.R_base ho0) hb); replace HO913 := Aside0.mk (Kd.R_elder' (by refine rk ?_; exact (Kd.R_mono (Kd.R_far (p := ⟨gb917, 2, none⟩) (Kd.R_far (p := ⟨gb917, 1, none⟩) (Kd.R_far (p := ⟨gb917, 0, none⟩) (Kd.R_types HO913.out BK917.out (by decide)) (fun _ hk => hk.2) (.int .i64 t910)) (fun _ hk => hk.2) (.slice Ao33 t911.length co33)) (fun _ hk => hk.2) (.slice Ao34 t914.length co34)) (fun _ h_ => h_.1))) (Kd.R_base ho0) hb); have HO924 := Aside0.mk (Kd.R_lower (Kd.R_new' (Kd.R_new' (Kd.R_new' ho1 (Kd.R_lt (by refine rk ?_; exact (Kd.R_mono (Kd.R_far (p := ⟨gb917, 2, none⟩) (Kd.R_far (p := ⟨gb917, 1, none⟩) (Kd.R_far (p := ⟨gb917, 0, none⟩) (Kd.R_types HO899.out BK917.out (by decide)) (fun _ hk => hk.2) (.int .i64 t910)) (fun _ hk => hk.2) (.slice Ao33 t911.length co33)) (fun _ hk => hk.2) (.slice Ao34 t914.length co34)) (fun _ h_ => h_.1))))) (Kd.R_lt (by refine rk ?_; exact (Kd.R_mono (Kd.R_far (p := ⟨gb917, 2, none⟩) (Kd.R_far (p := ⟨gb917, 1, none⟩) (Kd.R_far (p := ⟨gb917, 0, none⟩) (Kd.R_types HO906.out BK917.out (by decide)) (fun _ hk => hk.2) (.int .i64 t910)) (fun _ hk => hk.2) (.slice Ao33 t911.length co33)) (fun _ hk => hk.2) (.slice Ao34 t914.length co34)) (fun _ h_ => h_.1))))) (Kd.R_lt (by refine rk ?_; exact (Kd.R_mono (Kd.R_far (p := ⟨gb917, 2, none⟩) (Kd.R_far (p := ⟨gb917, 1, none⟩) (Kd.R_far (p := ⟨gb917, 0, none⟩) (Kd.R_types HO916.out BK917.out (by decide)) (fun _ hk => hk.2) (.int .i64 t910)) (fun _ hk => hk.2) (.slice Ao33 t911.length co33)) (fun _ hk => hk.2) (.slice Ao34 t914.length co34)) (fun _ h_ => h_.1))))) (below_size (bl HB.out))); replace HO899 := Aside0.mk (Kd.R_elder' (by refine rk ?_; exact (Kd.R_mono (Kd.R_far (p := ⟨gb917, 2, none⟩) (Kd.R_far (p := ⟨gb917, 1, none⟩) (Kd.R_far (p := ⟨gb917, 0, none⟩) (Kd.R_types HO899.out BK917.out (by decide)) (fun _ hk => hk.2) (.int .i64 t910)) (fun _ hk => hk.2) (.slice Ao33 t911.length co33)) (fun _ hk => hk.2) (.slice Ao34 t914.length co34)) (fun _ h_ => h_.1))) (Kd.R_base ho1) hb); replace HO906 := Aside0.mk (Kd.R_elder' (by refine rk ?_; exact (Kd.R_mono (Kd.R_far (p := ⟨gb917, 2, none⟩) (Kd.R_far (p := ⟨gb917, 1, none⟩) (Kd.R_far (p := ⟨gb917, 0, none⟩) (Kd.R_types HO906.out BK917.out (by decide)) (fun _ hk => hk.2) (.int .i64 t910)) (fun _ hk => hk.2) (.slice Ao33 t911.length co33)) (fun _ hk => hk.2) (.slice Ao34 t914.length co34)) (fun _ h_ => h_.1))) (Kd.R_base ho1) hb); replace HO916 := Aside0.mk (Kd.R_elder' (by refine rk ?_; exact (Kd.R_mono (Kd.R_far (p := ⟨gb917, 2, none⟩) (Kd.R_far (p := ⟨gb917, 1, none⟩) (Kd.R_far (p := ⟨gb917, 0, none⟩) (Kd.R_types HO916.out BK917.out (by decide)) (fun _ hk => hk.2) (.int .i64 t910)) (fun _ hk => hk.2) (.slice Ao33 t911.length co33)) (fun _ hk => hk.2) (.slice Ao34 t914.length co34)) (fun _ h_ => h_.1))) (Kd.R_base ho1) hb); replace BK891 := Aside0.mk (blk_below (g := gb891) (o := .cells #[.int .i64 a0_0, .slice A0_1 l0_1.length c0_1, .slice A0_2 l0_2.length c0_2] 58 (0, 0)) (bf BK891.out) hb); replace BK909 := Aside0.mk (blk_below (g := gb909) (o := .cells #[.int .i64 t900, .slice Ao25 t901.length co25, .slice Ao26 t904.length co26] 41 (0, 0)) (bf BK909.out) hb); replace BK917 := Aside0.mk (blk_below (g := gb917) (o := .cells #[.int .i64 t910, .slice Ao33 t911.length co33, .slice Ao34 t914.length co34] 41 (0, 0)) (by refine bk ?_; refine blk_put (cs := #[.int .i64 t910, .slice Ao33 t911.length co33, .slice none 0 0]) ?_ 2 _ rfl; refine bk ?_; refine blk_put (cs := #[.int .i64 t910, .slice none 0 0, .slice none 0 0]) ?_ 1 _ rfl; refine bk ?_; refine blk_put (cs := #[.int .i64 0, .slice none 0 0, .slice none 0 0]) ?_ 0 _ rfl; refine bk ?_; exact BK917.out) hb); replace HB := Aside0.mk (below_step (bl HB.out) hb); (try clear hb); (try clear hb2); (try clear hk); (try clear hi); (try clear ho0); (try clear ho1)) | ((with_reducible refine gate_dst (N := 12) rfl ?_); refine bx (cs := #[.int .i64 0, .slice none 0 0, .slice none 0 0]) (t := 41) fun gb927 hg w36 hbox hb => ?_; replace HO896 := Aside0.mk (Kd.R_below (rk HO896.out) hb); replace HO899 := Aside0.mk (Kd.R_below (rk HO899.out) hb); replace HO903 := Aside0.mk (Kd.R_below (rk HO903.out) hb); replace HO906 := Aside0.mk (Kd.R_below (rk HO906.out) hb); replace HO913 := Aside0.mk (Kd.R_below (rk HO913.out) hb); replace HO916 := Aside0.mk (Kd.R_below (rk HO916.out) hb); replace HO921 := Aside0.mk (Kd.R_below (rk HO921.out) hb); replace HO924 := Aside0.mk (Kd.R_below (rk HO924.out) hb); have BK927 := Aside0.mk (hbox); have GW927 := Aside0.mk (gs HB.out hg); have GE927 := Aside0.mk (gs HB.out hg); replace HB := Aside0.mk (below_step (bl HB.out) hb); have NB891_927 := Aside0.mk ((nl BK891.out hg)); have NB927_891 := Aside0.mk ((ng BK891.out hg)); replace BK891 := Aside0.mk (bb BK891.out hb); have NB909_927 := Aside0.mk ((nl BK909.out hg)); have NB927_909 := Aside0.mk ((ng BK909.out hg)); replace BK909 := Aside0.mk (bb BK909.out hb); have NB917_927 := Aside0.mk ((nl BK917.out hg)); have NB927_917 := Aside0.mk ((ng BK917.out hg)); replace BK917 := Aside0.mk (bb BK917.out hb); clear hb hbox hg; have hnb37 := NB927_891.out; have hnc37 := NB891_927.out; have hnb38 := NB927_909.out; have hnc38 := NB909_927.out; have hnb39 := NB927_917.out; have hnc39 := NB917_927.out; obtain ⟨hcz40_0, hcz40_1, hcz40_2, hfz40_0, hfz40_1, hfz40_2⟩ := cz3 BK927.out; obtain ⟨Ao41, co41, eo41⟩ := Kd.R_slice HO921.out; subst eo41; obtain ⟨Ao42, co42, eo42⟩ := Kd.R_slice HO924.out; subst eo42))
  (try simp only [Act.put, List.setIfInBounds_toArray, List.set_cons_zero, List.set_cons_succ])
  go_cut [58] (fun v58 wc => ∃ (kq : Nat) (x58_12 : Bool), v58 = .bool x58_12 ∧ Aside0 (laws_FnExactPutIn.j0 kq a1 a2 t907 t908 t925 t926 x58_12 a0_0 l0_1 l0_2 t900 t901 t904 t910 t911 t914 t918 t919 t922 = some r) ∧ Aside0 (kq ≤ k) ∧ Aside0 (Kd.R (Kd.int .i64) 3 wc w.heap.size (fun k_ => some k_ ≠ ((.slice Ao33 t911.length co33) : Value).ownBlock ∧ some k_ ≠ ((.slice Ao41 t919.length co41) : Value).ownBlock) (.slice Ao25 t901.length co25) t901) ∧ Aside0 (Kd.R k98 98 wc w.heap.size (fun k_ => some k_ ≠ ((.slice Ao34 t914.length co34) : Value).ownBlock ∧ some k_ ≠ ((.slice Ao42 t922.length co42) : Value).ownBlock) (.slice Ao26 t904.length co26) t904) ∧ Aside0 (Kd.R (Kd.int .i64) 3 wc w.heap.size (fun k_ => some k_ ≠ ((.slice Ao25 t901.length co25) : Value).ownBlock ∧ some k_ ≠ ((.slice Ao41 t919.length co41) : Value).ownBlock) (.slice Ao33 t911.length co33) t911) ∧ Aside0 (Kd.R k98 98 wc w.heap.size (fun k_ => some k_ ≠ ((.slice Ao26 t904.length co26) : Value).ownBlock ∧ some k_ ≠ ((.slice Ao42 t922.length co42) : Value).ownBlock) (.slice Ao34 t914.length co34) t914) ∧ Aside0 (Kd.R (Kd.int .i64) 3 wc w.heap.size (fun k_ => some k_ ≠ ((.slice Ao25 t901.length co25) : Value).ownBlock ∧ some k_ ≠ ((.slice Ao33 t911.length co33) : Value).ownBlock) (.slice Ao41 t919.length co41) t919) ∧ Aside0 (Kd.R k98 98 wc w.heap.size (fun k_ => some k_ ≠ ((.slice Ao26 t904.length co26) : Value).ownBlock ∧ some k_ ≠ ((.slice Ao34 t914.length co34) : Value).ownBlock) (.slice Ao42 t922.length co42) t922) ∧ Aside0 (wc.heap[gb891]? = some (.cells #[.int .i64 a0_0, (.slice A0_1 l0_1.length c0_1), (.slice A0_2 l0_2.length c0_2)] 58 (0, 0))) ∧ Aside0 (wc.heap[gb909]? = some (.cells #[.int .i64 t900, (.slice Ao25 t901.length co25), (.slice Ao26 t904.length co26)] 41 (0, 0))) ∧ Aside0 (wc.heap[gb917]? = some (.cells #[.int .i64 t910, (.slice Ao33 t911.length co33), (.slice Ao34 t914.length co34)] 41 (0, 0))) ∧ Aside0 (wc.heap[gb927]? = some (.cells #[.int .i64 t918, (.slice Ao41 t919.length co41), (.slice Ao42 t922.length co42)] 41 (0, 0))) ∧ Aside0 (Below w.heap.size w wc))
  case first =>
   have H := HC13.out
   clear HC13
   replace H := Option.bind_eq_some_iff.mp H
   obtain ⟨t928, A430, H⟩ := H
   try dsimp only at H
   have A43 := Aside0.mk A430
   clear A430
   by_cases c44 : t928 = true
   ·subst c44
    rw [if_pos rfl] at H
    by_cases c45 : t925 = t907
    ·rw [if_pos c45] at H
     have c45b0 : (t925 == t907) = true := beq_iff_eq.mpr c45
     have c45b1 : (t925 != t907) = false := bne_eq_false_iff_eq.mpr c45
     clear c45
     (first | rw [c45b0] | (simp only [i64_w, i32_w]; rw [c45b0]) | skip)
     have H' := Aside0.mk H
     clear H
     have hnb46 := NB927_891.out
     have hnc46 := NB891_927.out
     have hnb47 := NB927_909.out
     have hnc47 := NB909_927.out
     have hnb48 := NB927_917.out
     have hnc48 := NB917_927.out
     obtain ⟨hcz49_0, hcz49_1, hcz49_2, hfz49_0, hfz49_1, hfz49_2⟩ := cz3 BK927.out
     have hnb50 := NB909_891.out
     have hnc50 := NB891_909.out
     have hnb51 := NB909_917.out
     have hnc51 := NB917_909.out
     obtain ⟨hcz52_0, hcz52_1, hcz52_2, hfz52_0, hfz52_1, hfz52_2⟩ := cz3 BK909.out
     go_wp2_with (first | ((with_reducible refine gate_callee (f := 39) rfl ?_); refine goesL_ (some 47) rfl rfl Try.func39 (by kernel_rfl) rfl #[.agg #[.int .i64 t918, .slice Ao41 t919.length co41, .slice Ao42 t922.length co42], .agg #[.int .i64 t900, .slice Ao25 t901.length co25, .slice Ao26 t904.length co26]] rfl mapd ?_; (with_reducible refine (laws_eqColumn.calls k t918 _ _ t919 _ _ t922 t900 _ _ t901 _ _ t904 true _ ?side1 ?side2 ?side3 ?side4 ?side5 ?side6 ?side7 ?side8 A43.out).mono ?_); (case side1 => refine (Kd.R_reads' (e := 3) (base := w.heap.size) (ok := fun k_ => (((True ∧ some k_ ≠ (.slice Ao19 t894.length co19 : Value).ownBlock) ∧ some k_ ≠ (.slice Ao25 t901.length co25 : Value).ownBlock) ∧ some k_ ≠ (.slice Ao33 t911.length co33 : Value).ownBlock)) (n := t919.length) (c := co41) ?_).2.2; exact (by refine rk ?_; exact (Kd.R_mono (Kd.R_far (p := ⟨gb927, 2, none⟩) (Kd.R_far (p := ⟨gb927, 1, none⟩) (Kd.R_far (p := ⟨gb927, 0, none⟩) (Kd.R_types HO921.out BK927.out (by decide)) (fun _ hk => hk.2) (.int .i64 t918)) (fun _ hk => hk.2) (.slice Ao41 t919.length co41)) (fun _ hk => hk.2) (.slice Ao42 t922.length co42)) (fun _ h_ => h_.1)))); (case side2 => exact (Kd.R_reads' HO921.out).2.1); (case side3 => refine (Kd.R_reads' (e := 98) (base := w.heap.size) (ok := fun k_ => (((True ∧ some k_ ≠ (.slice Ao20 t897.length co20 : Value).ownBlock) ∧ some k_ ≠ (.slice Ao26 t904.length co26 : Value).ownBlock) ∧ some k_ ≠ (.slice Ao34 t914.length co34 : Value).ownBlock)) (n := t922.length) (c := co42) ?_).2.2; exact (by refine rk ?_; exact (Kd.R_mono (Kd.R_far (p := ⟨gb927, 2, none⟩) (Kd.R_far (p := ⟨gb927, 1, none⟩) (Kd.R_far (p := ⟨gb927, 0, none⟩) (Kd.R_types HO924.out BK927.out (by decide)) (fun _ hk => hk.2) (.int .i64 t918)) (fun _ hk => hk.2) (.slice Ao41 t919.length co41)) (fun _ hk => hk.2) (.slice Ao42 t922.length co42)) (fun _ h_ => h_.1)))); (case side4 => exact (Kd.R_reads' HO924.out).2.1); (case side5 => refine (Kd.R_reads' (e := 3) (base := w.heap.size) (ok := fun k_ => (((True ∧ some k_ ≠ (.slice Ao19 t894.length co19 : Value).ownBlock) ∧ some k_ ≠ (.slice Ao33 t911.length co33 : Value).ownBlock) ∧ some k_ ≠ (.slice Ao41 t919.length co41 : Value).ownBlock)) (n := t901.length) (c := co25) ?_).2.2; exact (by refine rk ?_; exact (Kd.R_mono (Kd.R_far (p := ⟨gb927, 2, none⟩) (Kd.R_far (p := ⟨gb927, 1, none⟩) (Kd.R_far (p := ⟨gb927, 0, none⟩) (Kd.R_types HO903.out BK927.out (by decide)) (fun _ hk => hk.2) (.int .i64 t918)) (fun _ hk => hk.2) (.slice Ao41 t919.length co41)) (fun _ hk => hk.2) (.slice Ao42 t922.length co42)) (fun _ h_ => h_.1)))); (case side6 => exact (Kd.R_reads' HO903.out).2.1); (case side7 => refine (Kd.R_reads' (e := 98) (base := w.heap.size) (ok := fun k_ => (((True ∧ some k_ ≠ (.slice Ao20 t897.length co20 : Value).ownBlock) ∧ some k_ ≠ (.slice Ao34 t914.length co34 : Value).ownBlock) ∧ some k_ ≠ (.slice Ao42 t922.length co42 : Value).ownBlock)) (n := t904.length) (c := co26) ?_).2.2; exact (by refine rk ?_; exact (Kd.R_mono (Kd.R_far (p := ⟨gb927, 2, none⟩) (Kd.R_far (p := ⟨gb927, 1, none⟩) (Kd.R_far (p := ⟨gb927, 0, none⟩) (Kd.R_types HO906.out BK927.out (by decide)) (fun _ hk => hk.2) (.int .i64 t918)) (fun _ hk => hk.2) (.slice Ao41 t919.length co41)) (fun _ hk => hk.2) (.slice Ao42 t922.length co42)) (fun _ h_ => h_.1)))); (case side8 => exact (Kd.R_reads' HO906.out).2.1); rintro e w53 ⟨rfl, hb⟩; refine ⟨_, rfl, ?_⟩; replace HO896 := Aside0.mk (Kd.R_below (by refine rk ?_; exact (Kd.R_mono (Kd.R_far (p := ⟨gb927, 2, none⟩) (Kd.R_far (p := ⟨gb927, 1, none⟩) (Kd.R_far (p := ⟨gb927, 0, none⟩) (Kd.R_types HO896.out BK927.out (by decide)) (fun _ hk => hk.2) (.int .i64 t918)) (fun _ hk => hk.2) (.slice Ao41 t919.length co41)) (fun _ hk => hk.2) (.slice Ao42 t922.length co42)) (fun _ h_ => h_.1))) hb); replace HO899 := Aside0.mk (Kd.R_below (by refine rk ?_; exact (Kd.R_mono (Kd.R_far (p := ⟨gb927, 2, none⟩) (Kd.R_far (p := ⟨gb927, 1, none⟩) (Kd.R_far (p := ⟨gb927, 0, none⟩) (Kd.R_types HO899.out BK927.out (by decide)) (fun _ hk => hk.2) (.int .i64 t918)) (fun _ hk => hk.2) (.slice Ao41 t919.length co41)) (fun _ hk => hk.2) (.slice Ao42 t922.length co42)) (fun _ h_ => h_.1))) hb); replace HO903 := Aside0.mk (Kd.R_below (by refine rk ?_; exact (Kd.R_mono (Kd.R_far (p := ⟨gb927, 2, none⟩) (Kd.R_far (p := ⟨gb927, 1, none⟩) (Kd.R_far (p := ⟨gb927, 0, none⟩) (Kd.R_types HO903.out BK927.out (by decide)) (fun _ hk => hk.2) (.int .i64 t918)) (fun _ hk => hk.2) (.slice Ao41 t919.length co41)) (fun _ hk => hk.2) (.slice Ao42 t922.length co42)) (fun _ h_ => h_.1))) hb); replace HO906 := Aside0.mk (Kd.R_below (by refine rk ?_; exact (Kd.R_mono (Kd.R_far (p := ⟨gb927, 2, none⟩) (Kd.R_far (p := ⟨gb927, 1, none⟩) (Kd.R_far (p := ⟨gb927, 0, none⟩) (Kd.R_types HO906.out BK927.out (by decide)) (fun _ hk => hk.2) (.int .i64 t918)) (fun _ hk => hk.2) (.slice Ao41 t919.length co41)) (fun _ hk => hk.2) (.slice Ao42 t922.length co42)) (fun _ h_ => h_.1))) hb); replace HO913 := Aside0.mk (Kd.R_below (by refine rk ?_; exact (Kd.R_mono (Kd.R_far (p := ⟨gb927, 2, none⟩) (Kd.R_far (p := ⟨gb927, 1, none⟩) (Kd.R_far (p := ⟨gb927, 0, none⟩) (Kd.R_types HO913.out BK927.out (by decide)) (fun _ hk => hk.2) (.int .i64 t918)) (fun _ hk => hk.2) (.slice Ao41 t919.length co41)) (fun _ hk => hk.2) (.slice Ao42 t922.length co42)) (fun _ h_ => h_.1))) hb); replace HO916 := Aside0.mk (Kd.R_below (by refine rk ?_; exact (Kd.R_mono (Kd.R_far (p := ⟨gb927, 2, none⟩) (Kd.R_far (p := ⟨gb927, 1, none⟩) (Kd.R_far (p := ⟨gb927, 0, none⟩) (Kd.R_types HO916.out BK927.out (by decide)) (fun _ hk => hk.2) (.int .i64 t918)) (fun _ hk => hk.2) (.slice Ao41 t919.length co41)) (fun _ hk => hk.2) (.slice Ao42 t922.length co42)) (fun _ h_ => h_.1))) hb); replace HO921 := Aside0.mk (Kd.R_below (by refine rk ?_; exact (Kd.R_mono (Kd.R_far (p := ⟨gb927, 2, none⟩) (Kd.R_far (p := ⟨gb927, 1, none⟩) (Kd.R_far (p := ⟨gb927, 0, none⟩) (Kd.R_types HO921.out BK927.out (by decide)) (fun _ hk => hk.2) (.int .i64 t918)) (fun _ hk => hk.2) (.slice Ao41 t919.length co41)) (fun _ hk => hk.2) (.slice Ao42 t922.length co42)) (fun _ h_ => h_.1))) hb); replace HO924 := Aside0.mk (Kd.R_below (by refine rk ?_; exact (Kd.R_mono (Kd.R_far (p := ⟨gb927, 2, none⟩) (Kd.R_far (p := ⟨gb927, 1, none⟩) (Kd.R_far (p := ⟨gb927, 0, none⟩) (Kd.R_types HO924.out BK927.out (by decide)) (fun _ hk => hk.2) (.int .i64 t918)) (fun _ hk => hk.2) (.slice Ao41 t919.length co41)) (fun _ hk => hk.2) (.slice Ao42 t922.length co42)) (fun _ h_ => h_.1))) hb); replace BK891 := Aside0.mk (blk_below (g := gb891) (o := .cells #[.int .i64 a0_0, .slice A0_1 l0_1.length c0_1, .slice A0_2 l0_2.length c0_2] 58 (0, 0)) (bf BK891.out) hb); replace BK909 := Aside0.mk (blk_below (g := gb909) (o := .cells #[.int .i64 t900, .slice Ao25 t901.length co25, .slice Ao26 t904.length co26] 41 (0, 0)) (bf BK909.out) hb); replace BK917 := Aside0.mk (blk_below (g := gb917) (o := .cells #[.int .i64 t910, .slice Ao33 t911.length co33, .slice Ao34 t914.length co34] 41 (0, 0)) (bf BK917.out) hb); replace BK927 := Aside0.mk (blk_below (g := gb927) (o := .cells #[.int .i64 t918, .slice Ao41 t919.length co41, .slice Ao42 t922.length co42] 41 (0, 0)) (by refine bk ?_; refine blk_put (cs := #[.int .i64 t918, .slice Ao41 t919.length co41, .slice none 0 0]) ?_ 2 _ rfl; refine bk ?_; refine blk_put (cs := #[.int .i64 t918, .slice none 0 0, .slice none 0 0]) ?_ 1 _ rfl; refine bk ?_; refine blk_put (cs := #[.int .i64 0, .slice none 0 0, .slice none 0 0]) ?_ 0 _ rfl; refine bk ?_; exact BK927.out) hb); replace HB := Aside0.mk (below_step (bl HB.out) hb); (try clear hb); (try clear hb2); (try clear hk); (try clear hi)))
     go_meet
     case rel => exact ⟨_, ((t926 != t908)), (by first | rfl | (simp; done) | (simp [*]; done)), H', ⟨by first | omega | exact Nat.le_refl _⟩, ⟨by refine rk ?_; exact Kd.R_mono HO903.out (fun _ hk => ⟨hk.1.2, hk.2⟩)⟩, ⟨by refine rk ?_; exact Kd.R_mono HO906.out (fun _ hk => ⟨hk.1.2, hk.2⟩)⟩, ⟨by refine rk ?_; exact Kd.R_mono HO913.out (fun _ hk => ⟨hk.1.2, hk.2⟩)⟩, ⟨by refine rk ?_; exact Kd.R_mono HO916.out (fun _ hk => ⟨hk.1.2, hk.2⟩)⟩, ⟨by refine rk ?_; exact Kd.R_mono HO921.out (fun _ hk => ⟨hk.1.2, hk.2⟩)⟩, ⟨by refine rk ?_; exact Kd.R_mono HO924.out (fun _ hk => ⟨hk.1.2, hk.2⟩)⟩, ⟨by refine bk ?_; exact BK891.out⟩, ⟨by refine bk ?_; exact BK909.out⟩, ⟨by refine bk ?_; exact BK917.out⟩, ⟨by refine bk ?_; exact BK927.out⟩, ⟨bl HB.out⟩⟩
    ·rw [if_neg c45] at H
     have c45b0 : (t925 == t907) = false := beq_eq_false_iff_ne.mpr c45
     have c45b1 : (t925 != t907) = true := bne_iff_ne.mpr c45
     (first | rw [c45b0] | (simp only [i64_w, i32_w]; rw [c45b0]) | skip)
     have H' := Aside0.mk H
     clear H
     have hnb54 := NB927_891.out
     have hnc54 := NB891_927.out
     have hnb55 := NB927_909.out
     have hnc55 := NB909_927.out
     have hnb56 := NB927_917.out
     have hnc56 := NB917_927.out
     obtain ⟨hcz57_0, hcz57_1, hcz57_2, hfz57_0, hfz57_1, hfz57_2⟩ := cz3 BK927.out
     have hnb58 := NB909_891.out
     have hnc58 := NB891_909.out
     have hnb59 := NB909_917.out
     have hnc59 := NB917_909.out
     obtain ⟨hcz60_0, hcz60_1, hcz60_2, hfz60_0, hfz60_1, hfz60_2⟩ := cz3 BK909.out
     go_wp2_with (first | ((with_reducible refine gate_callee (f := 39) rfl ?_); refine goesL_ (some 47) rfl rfl Try.func39 (by kernel_rfl) rfl #[.agg #[.int .i64 t918, .slice Ao41 t919.length co41, .slice Ao42 t922.length co42], .agg #[.int .i64 t900, .slice Ao25 t901.length co25, .slice Ao26 t904.length co26]] rfl mapd ?_; (with_reducible refine (laws_eqColumn.calls k t918 _ _ t919 _ _ t922 t900 _ _ t901 _ _ t904 true _ ?side1 ?side2 ?side3 ?side4 ?side5 ?side6 ?side7 ?side8 A43.out).mono ?_); (case side1 => refine (Kd.R_reads' (e := 3) (base := w.heap.size) (ok := fun k_ => (((True ∧ some k_ ≠ (.slice Ao19 t894.length co19 : Value).ownBlock) ∧ some k_ ≠ (.slice Ao25 t901.length co25 : Value).ownBlock) ∧ some k_ ≠ (.slice Ao33 t911.length co33 : Value).ownBlock)) (n := t919.length) (c := co41) ?_).2.2; exact (by refine rk ?_; exact (Kd.R_mono (Kd.R_far (p := ⟨gb927, 2, none⟩) (Kd.R_far (p := ⟨gb927, 1, none⟩) (Kd.R_far (p := ⟨gb927, 0, none⟩) (Kd.R_types HO921.out BK927.out (by decide)) (fun _ hk => hk.2) (.int .i64 t918)) (fun _ hk => hk.2) (.slice Ao41 t919.length co41)) (fun _ hk => hk.2) (.slice Ao42 t922.length co42)) (fun _ h_ => h_.1)))); (case side2 => exact (Kd.R_reads' HO921.out).2.1); (case side3 => refine (Kd.R_reads' (e := 98) (base := w.heap.size) (ok := fun k_ => (((True ∧ some k_ ≠ (.slice Ao20 t897.length co20 : Value).ownBlock) ∧ some k_ ≠ (.slice Ao26 t904.length co26 : Value).ownBlock) ∧ some k_ ≠ (.slice Ao34 t914.length co34 : Value).ownBlock)) (n := t922.length) (c := co42) ?_).2.2; exact (by refine rk ?_; exact (Kd.R_mono (Kd.R_far (p := ⟨gb927, 2, none⟩) (Kd.R_far (p := ⟨gb927, 1, none⟩) (Kd.R_far (p := ⟨gb927, 0, none⟩) (Kd.R_types HO924.out BK927.out (by decide)) (fun _ hk => hk.2) (.int .i64 t918)) (fun _ hk => hk.2) (.slice Ao41 t919.length co41)) (fun _ hk => hk.2) (.slice Ao42 t922.length co42)) (fun _ h_ => h_.1)))); (case side4 => exact (Kd.R_reads' HO924.out).2.1); (case side5 => refine (Kd.R_reads' (e := 3) (base := w.heap.size) (ok := fun k_ => (((True ∧ some k_ ≠ (.slice Ao19 t894.length co19 : Value).ownBlock) ∧ some k_ ≠ (.slice Ao33 t911.length co33 : Value).ownBlock) ∧ some k_ ≠ (.slice Ao41 t919.length co41 : Value).ownBlock)) (n := t901.length) (c := co25) ?_).2.2; exact (by refine rk ?_; exact (Kd.R_mono (Kd.R_far (p := ⟨gb927, 2, none⟩) (Kd.R_far (p := ⟨gb927, 1, none⟩) (Kd.R_far (p := ⟨gb927, 0, none⟩) (Kd.R_types HO903.out BK927.out (by decide)) (fun _ hk => hk.2) (.int .i64 t918)) (fun _ hk => hk.2) (.slice Ao41 t919.length co41)) (fun _ hk => hk.2) (.slice Ao42 t922.length co42)) (fun _ h_ => h_.1)))); (case side6 => exact (Kd.R_reads' HO903.out).2.1); (case side7 => refine (Kd.R_reads' (e := 98) (base := w.heap.size) (ok := fun k_ => (((True ∧ some k_ ≠ (.slice Ao20 t897.length co20 : Value).ownBlock) ∧ some k_ ≠ (.slice Ao34 t914.length co34 : Value).ownBlock) ∧ some k_ ≠ (.slice Ao42 t922.length co42 : Value).ownBlock)) (n := t904.length) (c := co26) ?_).2.2; exact (by refine rk ?_; exact (Kd.R_mono (Kd.R_far (p := ⟨gb927, 2, none⟩) (Kd.R_far (p := ⟨gb927, 1, none⟩) (Kd.R_far (p := ⟨gb927, 0, none⟩) (Kd.R_types HO906.out BK927.out (by decide)) (fun _ hk => hk.2) (.int .i64 t918)) (fun _ hk => hk.2) (.slice Ao41 t919.length co41)) (fun _ hk => hk.2) (.slice Ao42 t922.length co42)) (fun _ h_ => h_.1)))); (case side8 => exact (Kd.R_reads' HO906.out).2.1); rintro e w61 ⟨rfl, hb⟩; refine ⟨_, rfl, ?_⟩; replace HO896 := Aside0.mk (Kd.R_below (by refine rk ?_; exact (Kd.R_mono (Kd.R_far (p := ⟨gb927, 2, none⟩) (Kd.R_far (p := ⟨gb927, 1, none⟩) (Kd.R_far (p := ⟨gb927, 0, none⟩) (Kd.R_types HO896.out BK927.out (by decide)) (fun _ hk => hk.2) (.int .i64 t918)) (fun _ hk => hk.2) (.slice Ao41 t919.length co41)) (fun _ hk => hk.2) (.slice Ao42 t922.length co42)) (fun _ h_ => h_.1))) hb); replace HO899 := Aside0.mk (Kd.R_below (by refine rk ?_; exact (Kd.R_mono (Kd.R_far (p := ⟨gb927, 2, none⟩) (Kd.R_far (p := ⟨gb927, 1, none⟩) (Kd.R_far (p := ⟨gb927, 0, none⟩) (Kd.R_types HO899.out BK927.out (by decide)) (fun _ hk => hk.2) (.int .i64 t918)) (fun _ hk => hk.2) (.slice Ao41 t919.length co41)) (fun _ hk => hk.2) (.slice Ao42 t922.length co42)) (fun _ h_ => h_.1))) hb); replace HO903 := Aside0.mk (Kd.R_below (by refine rk ?_; exact (Kd.R_mono (Kd.R_far (p := ⟨gb927, 2, none⟩) (Kd.R_far (p := ⟨gb927, 1, none⟩) (Kd.R_far (p := ⟨gb927, 0, none⟩) (Kd.R_types HO903.out BK927.out (by decide)) (fun _ hk => hk.2) (.int .i64 t918)) (fun _ hk => hk.2) (.slice Ao41 t919.length co41)) (fun _ hk => hk.2) (.slice Ao42 t922.length co42)) (fun _ h_ => h_.1))) hb); replace HO906 := Aside0.mk (Kd.R_below (by refine rk ?_; exact (Kd.R_mono (Kd.R_far (p := ⟨gb927, 2, none⟩) (Kd.R_far (p := ⟨gb927, 1, none⟩) (Kd.R_far (p := ⟨gb927, 0, none⟩) (Kd.R_types HO906.out BK927.out (by decide)) (fun _ hk => hk.2) (.int .i64 t918)) (fun _ hk => hk.2) (.slice Ao41 t919.length co41)) (fun _ hk => hk.2) (.slice Ao42 t922.length co42)) (fun _ h_ => h_.1))) hb); replace HO913 := Aside0.mk (Kd.R_below (by refine rk ?_; exact (Kd.R_mono (Kd.R_far (p := ⟨gb927, 2, none⟩) (Kd.R_far (p := ⟨gb927, 1, none⟩) (Kd.R_far (p := ⟨gb927, 0, none⟩) (Kd.R_types HO913.out BK927.out (by decide)) (fun _ hk => hk.2) (.int .i64 t918)) (fun _ hk => hk.2) (.slice Ao41 t919.length co41)) (fun _ hk => hk.2) (.slice Ao42 t922.length co42)) (fun _ h_ => h_.1))) hb); replace HO916 := Aside0.mk (Kd.R_below (by refine rk ?_; exact (Kd.R_mono (Kd.R_far (p := ⟨gb927, 2, none⟩) (Kd.R_far (p := ⟨gb927, 1, none⟩) (Kd.R_far (p := ⟨gb927, 0, none⟩) (Kd.R_types HO916.out BK927.out (by decide)) (fun _ hk => hk.2) (.int .i64 t918)) (fun _ hk => hk.2) (.slice Ao41 t919.length co41)) (fun _ hk => hk.2) (.slice Ao42 t922.length co42)) (fun _ h_ => h_.1))) hb); replace HO921 := Aside0.mk (Kd.R_below (by refine rk ?_; exact (Kd.R_mono (Kd.R_far (p := ⟨gb927, 2, none⟩) (Kd.R_far (p := ⟨gb927, 1, none⟩) (Kd.R_far (p := ⟨gb927, 0, none⟩) (Kd.R_types HO921.out BK927.out (by decide)) (fun _ hk => hk.2) (.int .i64 t918)) (fun _ hk => hk.2) (.slice Ao41 t919.length co41)) (fun _ hk => hk.2) (.slice Ao42 t922.length co42)) (fun _ h_ => h_.1))) hb); replace HO924 := Aside0.mk (Kd.R_below (by refine rk ?_; exact (Kd.R_mono (Kd.R_far (p := ⟨gb927, 2, none⟩) (Kd.R_far (p := ⟨gb927, 1, none⟩) (Kd.R_far (p := ⟨gb927, 0, none⟩) (Kd.R_types HO924.out BK927.out (by decide)) (fun _ hk => hk.2) (.int .i64 t918)) (fun _ hk => hk.2) (.slice Ao41 t919.length co41)) (fun _ hk => hk.2) (.slice Ao42 t922.length co42)) (fun _ h_ => h_.1))) hb); replace BK891 := Aside0.mk (blk_below (g := gb891) (o := .cells #[.int .i64 a0_0, .slice A0_1 l0_1.length c0_1, .slice A0_2 l0_2.length c0_2] 58 (0, 0)) (bf BK891.out) hb); replace BK909 := Aside0.mk (blk_below (g := gb909) (o := .cells #[.int .i64 t900, .slice Ao25 t901.length co25, .slice Ao26 t904.length co26] 41 (0, 0)) (bf BK909.out) hb); replace BK917 := Aside0.mk (blk_below (g := gb917) (o := .cells #[.int .i64 t910, .slice Ao33 t911.length co33, .slice Ao34 t914.length co34] 41 (0, 0)) (bf BK917.out) hb); replace BK927 := Aside0.mk (blk_below (g := gb927) (o := .cells #[.int .i64 t918, .slice Ao41 t919.length co41, .slice Ao42 t922.length co42] 41 (0, 0)) (by refine bk ?_; refine blk_put (cs := #[.int .i64 t918, .slice Ao41 t919.length co41, .slice none 0 0]) ?_ 2 _ rfl; refine bk ?_; refine blk_put (cs := #[.int .i64 t918, .slice none 0 0, .slice none 0 0]) ?_ 1 _ rfl; refine bk ?_; refine blk_put (cs := #[.int .i64 0, .slice none 0 0, .slice none 0 0]) ?_ 0 _ rfl; refine bk ?_; exact BK927.out) hb); replace HB := Aside0.mk (below_step (bl HB.out) hb); (try clear hb); (try clear hb2); (try clear hk); (try clear hi)))
     go_meet
     case rel => exact ⟨_, (true), (by first | rfl | (simp; done) | (simp [*]; done)), H', ⟨by first | omega | exact Nat.le_refl _⟩, ⟨by refine rk ?_; exact Kd.R_mono HO903.out (fun _ hk => ⟨hk.1.2, hk.2⟩)⟩, ⟨by refine rk ?_; exact Kd.R_mono HO906.out (fun _ hk => ⟨hk.1.2, hk.2⟩)⟩, ⟨by refine rk ?_; exact Kd.R_mono HO913.out (fun _ hk => ⟨hk.1.2, hk.2⟩)⟩, ⟨by refine rk ?_; exact Kd.R_mono HO916.out (fun _ hk => ⟨hk.1.2, hk.2⟩)⟩, ⟨by refine rk ?_; exact Kd.R_mono HO921.out (fun _ hk => ⟨hk.1.2, hk.2⟩)⟩, ⟨by refine rk ?_; exact Kd.R_mono HO924.out (fun _ hk => ⟨hk.1.2, hk.2⟩)⟩, ⟨by refine bk ?_; exact BK891.out⟩, ⟨by refine bk ?_; exact BK909.out⟩, ⟨by refine bk ?_; exact BK917.out⟩, ⟨by refine bk ?_; exact BK927.out⟩, ⟨bl HB.out⟩⟩
   ·replace c44 := Bool.eq_false_iff.mpr c44
    subst c44
    rw [if_neg (show ¬ (false = true) by decide)] at H
    have H' := Aside0.mk H
    clear H
    have hnb62 := NB927_891.out
    have hnc62 := NB891_927.out
    have hnb63 := NB927_909.out
    have hnc63 := NB909_927.out
    have hnb64 := NB927_917.out
    have hnc64 := NB917_927.out
    obtain ⟨hcz65_0, hcz65_1, hcz65_2, hfz65_0, hfz65_1, hfz65_2⟩ := cz3 BK927.out
    have hnb66 := NB909_891.out
    have hnc66 := NB891_909.out
    have hnb67 := NB909_917.out
    have hnc67 := NB917_909.out
    obtain ⟨hcz68_0, hcz68_1, hcz68_2, hfz68_0, hfz68_1, hfz68_2⟩ := cz3 BK909.out
    go_wp2_with (first | ((with_reducible refine gate_callee (f := 39) rfl ?_); refine goesL_ (some 47) rfl rfl Try.func39 (by kernel_rfl) rfl #[.agg #[.int .i64 t918, .slice Ao41 t919.length co41, .slice Ao42 t922.length co42], .agg #[.int .i64 t900, .slice Ao25 t901.length co25, .slice Ao26 t904.length co26]] rfl mapd ?_; (with_reducible refine (laws_eqColumn.calls k t918 _ _ t919 _ _ t922 t900 _ _ t901 _ _ t904 false _ ?side1 ?side2 ?side3 ?side4 ?side5 ?side6 ?side7 ?side8 A43.out).mono ?_); (case side1 => refine (Kd.R_reads' (e := 3) (base := w.heap.size) (ok := fun k_ => (((True ∧ some k_ ≠ (.slice Ao19 t894.length co19 : Value).ownBlock) ∧ some k_ ≠ (.slice Ao25 t901.length co25 : Value).ownBlock) ∧ some k_ ≠ (.slice Ao33 t911.length co33 : Value).ownBlock)) (n := t919.length) (c := co41) ?_).2.2; exact (by refine rk ?_; exact (Kd.R_mono (Kd.R_far (p := ⟨gb927, 2, none⟩) (Kd.R_far (p := ⟨gb927, 1, none⟩) (Kd.R_far (p := ⟨gb927, 0, none⟩) (Kd.R_types HO921.out BK927.out (by decide)) (fun _ hk => hk.2) (.int .i64 t918)) (fun _ hk => hk.2) (.slice Ao41 t919.length co41)) (fun _ hk => hk.2) (.slice Ao42 t922.length co42)) (fun _ h_ => h_.1)))); (case side2 => exact (Kd.R_reads' HO921.out).2.1); (case side3 => refine (Kd.R_reads' (e := 98) (base := w.heap.size) (ok := fun k_ => (((True ∧ some k_ ≠ (.slice Ao20 t897.length co20 : Value).ownBlock) ∧ some k_ ≠ (.slice Ao26 t904.length co26 : Value).ownBlock) ∧ some k_ ≠ (.slice Ao34 t914.length co34 : Value).ownBlock)) (n := t922.length) (c := co42) ?_).2.2; exact (by refine rk ?_; exact (Kd.R_mono (Kd.R_far (p := ⟨gb927, 2, none⟩) (Kd.R_far (p := ⟨gb927, 1, none⟩) (Kd.R_far (p := ⟨gb927, 0, none⟩) (Kd.R_types HO924.out BK927.out (by decide)) (fun _ hk => hk.2) (.int .i64 t918)) (fun _ hk => hk.2) (.slice Ao41 t919.length co41)) (fun _ hk => hk.2) (.slice Ao42 t922.length co42)) (fun _ h_ => h_.1)))); (case side4 => exact (Kd.R_reads' HO924.out).2.1); (case side5 => refine (Kd.R_reads' (e := 3) (base := w.heap.size) (ok := fun k_ => (((True ∧ some k_ ≠ (.slice Ao19 t894.length co19 : Value).ownBlock) ∧ some k_ ≠ (.slice Ao33 t911.length co33 : Value).ownBlock) ∧ some k_ ≠ (.slice Ao41 t919.length co41 : Value).ownBlock)) (n := t901.length) (c := co25) ?_).2.2; exact (by refine rk ?_; exact (Kd.R_mono (Kd.R_far (p := ⟨gb927, 2, none⟩) (Kd.R_far (p := ⟨gb927, 1, none⟩) (Kd.R_far (p := ⟨gb927, 0, none⟩) (Kd.R_types HO903.out BK927.out (by decide)) (fun _ hk => hk.2) (.int .i64 t918)) (fun _ hk => hk.2) (.slice Ao41 t919.length co41)) (fun _ hk => hk.2) (.slice Ao42 t922.length co42)) (fun _ h_ => h_.1)))); (case side6 => exact (Kd.R_reads' HO903.out).2.1); (case side7 => refine (Kd.R_reads' (e := 98) (base := w.heap.size) (ok := fun k_ => (((True ∧ some k_ ≠ (.slice Ao20 t897.length co20 : Value).ownBlock) ∧ some k_ ≠ (.slice Ao34 t914.length co34 : Value).ownBlock) ∧ some k_ ≠ (.slice Ao42 t922.length co42 : Value).ownBlock)) (n := t904.length) (c := co26) ?_).2.2; exact (by refine rk ?_; exact (Kd.R_mono (Kd.R_far (p := ⟨gb927, 2, none⟩) (Kd.R_far (p := ⟨gb927, 1, none⟩) (Kd.R_far (p := ⟨gb927, 0, none⟩) (Kd.R_types HO906.out BK927.out (by decide)) (fun _ hk => hk.2) (.int .i64 t918)) (fun _ hk => hk.2) (.slice Ao41 t919.length co41)) (fun _ hk => hk.2) (.slice Ao42 t922.length co42)) (fun _ h_ => h_.1)))); (case side8 => exact (Kd.R_reads' HO906.out).2.1); rintro e w69 ⟨rfl, hb⟩; refine ⟨_, rfl, ?_⟩; replace HO896 := Aside0.mk (Kd.R_below (by refine rk ?_; exact (Kd.R_mono (Kd.R_far (p := ⟨gb927, 2, none⟩) (Kd.R_far (p := ⟨gb927, 1, none⟩) (Kd.R_far (p := ⟨gb927, 0, none⟩) (Kd.R_types HO896.out BK927.out (by decide)) (fun _ hk => hk.2) (.int .i64 t918)) (fun _ hk => hk.2) (.slice Ao41 t919.length co41)) (fun _ hk => hk.2) (.slice Ao42 t922.length co42)) (fun _ h_ => h_.1))) hb); replace HO899 := Aside0.mk (Kd.R_below (by refine rk ?_; exact (Kd.R_mono (Kd.R_far (p := ⟨gb927, 2, none⟩) (Kd.R_far (p := ⟨gb927, 1, none⟩) (Kd.R_far (p := ⟨gb927, 0, none⟩) (Kd.R_types HO899.out BK927.out (by decide)) (fun _ hk => hk.2) (.int .i64 t918)) (fun _ hk => hk.2) (.slice Ao41 t919.length co41)) (fun _ hk => hk.2) (.slice Ao42 t922.length co42)) (fun _ h_ => h_.1))) hb); replace HO903 := Aside0.mk (Kd.R_below (by refine rk ?_; exact (Kd.R_mono (Kd.R_far (p := ⟨gb927, 2, none⟩) (Kd.R_far (p := ⟨gb927, 1, none⟩) (Kd.R_far (p := ⟨gb927, 0, none⟩) (Kd.R_types HO903.out BK927.out (by decide)) (fun _ hk => hk.2) (.int .i64 t918)) (fun _ hk => hk.2) (.slice Ao41 t919.length co41)) (fun _ hk => hk.2) (.slice Ao42 t922.length co42)) (fun _ h_ => h_.1))) hb); replace HO906 := Aside0.mk (Kd.R_below (by refine rk ?_; exact (Kd.R_mono (Kd.R_far (p := ⟨gb927, 2, none⟩) (Kd.R_far (p := ⟨gb927, 1, none⟩) (Kd.R_far (p := ⟨gb927, 0, none⟩) (Kd.R_types HO906.out BK927.out (by decide)) (fun _ hk => hk.2) (.int .i64 t918)) (fun _ hk => hk.2) (.slice Ao41 t919.length co41)) (fun _ hk => hk.2) (.slice Ao42 t922.length co42)) (fun _ h_ => h_.1))) hb); replace HO913 := Aside0.mk (Kd.R_below (by refine rk ?_; exact (Kd.R_mono (Kd.R_far (p := ⟨gb927, 2, none⟩) (Kd.R_far (p := ⟨gb927, 1, none⟩) (Kd.R_far (p := ⟨gb927, 0, none⟩) (Kd.R_types HO913.out BK927.out (by decide)) (fun _ hk => hk.2) (.int .i64 t918)) (fun _ hk => hk.2) (.slice Ao41 t919.length co41)) (fun _ hk => hk.2) (.slice Ao42 t922.length co42)) (fun _ h_ => h_.1))) hb); replace HO916 := Aside0.mk (Kd.R_below (by refine rk ?_; exact (Kd.R_mono (Kd.R_far (p := ⟨gb927, 2, none⟩) (Kd.R_far (p := ⟨gb927, 1, none⟩) (Kd.R_far (p := ⟨gb927, 0, none⟩) (Kd.R_types HO916.out BK927.out (by decide)) (fun _ hk => hk.2) (.int .i64 t918)) (fun _ hk => hk.2) (.slice Ao41 t919.length co41)) (fun _ hk => hk.2) (.slice Ao42 t922.length co42)) (fun _ h_ => h_.1))) hb); replace HO921 := Aside0.mk (Kd.R_below (by refine rk ?_; exact (Kd.R_mono (Kd.R_far (p := ⟨gb927, 2, none⟩) (Kd.R_far (p := ⟨gb927, 1, none⟩) (Kd.R_far (p := ⟨gb927, 0, none⟩) (Kd.R_types HO921.out BK927.out (by decide)) (fun _ hk => hk.2) (.int .i64 t918)) (fun _ hk => hk.2) (.slice Ao41 t919.length co41)) (fun _ hk => hk.2) (.slice Ao42 t922.length co42)) (fun _ h_ => h_.1))) hb); replace HO924 := Aside0.mk (Kd.R_below (by refine rk ?_; exact (Kd.R_mono (Kd.R_far (p := ⟨gb927, 2, none⟩) (Kd.R_far (p := ⟨gb927, 1, none⟩) (Kd.R_far (p := ⟨gb927, 0, none⟩) (Kd.R_types HO924.out BK927.out (by decide)) (fun _ hk => hk.2) (.int .i64 t918)) (fun _ hk => hk.2) (.slice Ao41 t919.length co41)) (fun _ hk => hk.2) (.slice Ao42 t922.length co42)) (fun _ h_ => h_.1))) hb); replace BK891 := Aside0.mk (blk_below (g := gb891) (o := .cells #[.int .i64 a0_0, .slice A0_1 l0_1.length c0_1, .slice A0_2 l0_2.length c0_2] 58 (0, 0)) (bf BK891.out) hb); replace BK909 := Aside0.mk (blk_below (g := gb909) (o := .cells #[.int .i64 t900, .slice Ao25 t901.length co25, .slice Ao26 t904.length co26] 41 (0, 0)) (bf BK909.out) hb); replace BK917 := Aside0.mk (blk_below (g := gb917) (o := .cells #[.int .i64 t910, .slice Ao33 t911.length co33, .slice Ao34 t914.length co34] 41 (0, 0)) (bf BK917.out) hb); replace BK927 := Aside0.mk (blk_below (g := gb927) (o := .cells #[.int .i64 t918, .slice Ao41 t919.length co41, .slice Ao42 t922.length co42] 41 (0, 0)) (by refine bk ?_; refine blk_put (cs := #[.int .i64 t918, .slice Ao41 t919.length co41, .slice none 0 0]) ?_ 2 _ rfl; refine bk ?_; refine blk_put (cs := #[.int .i64 t918, .slice none 0 0, .slice none 0 0]) ?_ 1 _ rfl; refine bk ?_; refine blk_put (cs := #[.int .i64 0, .slice none 0 0, .slice none 0 0]) ?_ 0 _ rfl; refine bk ?_; exact BK927.out) hb); replace HB := Aside0.mk (below_step (bl HB.out) hb); (try clear hb); (try clear hb2); (try clear hk); (try clear hi)))
    go_meet
    case rel => exact ⟨_, (true), (by first | rfl | (simp; done) | (simp [*]; done)), H', ⟨by first | omega | exact Nat.le_refl _⟩, ⟨by refine rk ?_; exact Kd.R_mono HO903.out (fun _ hk => ⟨hk.1.2, hk.2⟩)⟩, ⟨by refine rk ?_; exact Kd.R_mono HO906.out (fun _ hk => ⟨hk.1.2, hk.2⟩)⟩, ⟨by refine rk ?_; exact Kd.R_mono HO913.out (fun _ hk => ⟨hk.1.2, hk.2⟩)⟩, ⟨by refine rk ?_; exact Kd.R_mono HO916.out (fun _ hk => ⟨hk.1.2, hk.2⟩)⟩, ⟨by refine rk ?_; exact Kd.R_mono HO921.out (fun _ hk => ⟨hk.1.2, hk.2⟩)⟩, ⟨by refine rk ?_; exact Kd.R_mono HO924.out (fun _ hk => ⟨hk.1.2, hk.2⟩)⟩, ⟨by refine bk ?_; exact BK891.out⟩, ⟨by refine bk ?_; exact BK909.out⟩, ⟨by refine bk ?_; exact BK917.out⟩, ⟨by refine bk ?_; exact BK927.out⟩, ⟨bl HB.out⟩⟩
  case rest =>
   clear HC13
   try clear c2
   try clear p2
   try clear c3
   try clear c4
   try clear c5
   try clear c5b0
   try clear c6
   try clear c23
   try clear c29
   try clear c30
   try clear c31
   try clear c37
   try clear c38
   try clear c39
   try clear c44
   try clear c45
   try clear c45b0
   try clear c45b1
   try clear c46
   try clear c47
   try clear c48
   try clear c50
   try clear c51
   try clear c54
   try clear c55
   try clear c56
   try clear c58
   try clear c59
   try clear c62
   try clear c63
   try clear c64
   try clear c66
   try clear c67
   try clear hcz15_0
   try clear hcz15_1
   try clear hcz15_2
   try clear hcz17_0
   try clear hcz17_1
   try clear hcz17_2
   try clear hcz24_0
   try clear hcz24_1
   try clear hcz24_2
   try clear hcz27_0
   try clear hcz27_1
   try clear hcz27_2
   try clear hcz32_0
   try clear hcz32_1
   try clear hcz32_2
   try clear hcz40_0
   try clear hcz40_1
   try clear hcz40_2
   try clear hcz49_0
   try clear hcz49_1
   try clear hcz49_2
   try clear hcz52_0
   try clear hcz52_1
   try clear hcz52_2
   try clear hcz57_0
   try clear hcz57_1
   try clear hcz57_2
   try clear hcz60_0
   try clear hcz60_1
   try clear hcz60_2
   try clear hcz65_0
   try clear hcz65_1
   try clear hcz65_2
   try clear hcz68_0
   try clear hcz68_1
   try clear hcz68_2
   try clear hcz7_0
   try clear hcz7_1
   try clear hcz7_2
   try clear hfz15_0
   try clear hfz15_1
   try clear hfz15_2
   try clear hfz17_0
   try clear hfz17_1
   try clear hfz17_2
   try clear hfz24_0
   try clear hfz24_1
   try clear hfz24_2
   try clear hfz27_0
   try clear hfz27_1
   try clear hfz27_2
   try clear hfz32_0
   try clear hfz32_1
   try clear hfz32_2
   try clear hfz40_0
   try clear hfz40_1
   try clear hfz40_2
   try clear hfz49_0
   try clear hfz49_1
   try clear hfz49_2
   try clear hfz52_0
   try clear hfz52_1
   try clear hfz52_2
   try clear hfz57_0
   try clear hfz57_1
   try clear hfz57_2
   try clear hfz60_0
   try clear hfz60_1
   try clear hfz60_2
   try clear hfz65_0
   try clear hfz65_1
   try clear hfz65_2
   try clear hfz68_0
   try clear hfz68_1
   try clear hfz68_2
   try clear hfz7_0
   try clear hfz7_1
   try clear hfz7_2
   obtain ⟨kq, x58_12, rfl, HA, HJ12, HO_910001, HO_910002, HO_918001, HO_918002, HO_928001, HO_928002, BK891, BK909, BK917, BK927, HB⟩ := hcut
   cases kq with
   | zero => exact absurd HA.out (by simp [laws_FnExactPutIn.j0])
   | succ kj12 =>
    have H := HA.out
    clear HA
    simp only [laws_FnExactPutIn.j0] at H
    by_cases c70 : x58_12 = true
    ·subst c70
     rw [if_pos rfl] at H
     exact absurd (Option.some.inj H) (by rw [hr_.out]; decide)
    ·replace c70 := Bool.eq_false_iff.mpr c70
     subst c70
     rw [if_neg (show ¬ (false = true) by decide)] at H
     replace H := Option.bind_eq_some_iff.mp H
     obtain ⟨⟨t929, t930, t933⟩, A710, H⟩ := H
     try dsimp only at H
     have A71 := Aside0.mk A710
     clear A710
     replace H := Option.bind_eq_some_iff.mp H
     obtain ⟨t936, A720, H⟩ := H
     try dsimp only at H
     have A72 := Aside0.mk A720
     clear A720
     by_cases c73 : t936 = true
     ·subst c73
      rw [if_pos rfl] at H
      replace H := Option.bind_eq_some_iff.mp H
      obtain ⟨⟨t937, t938, t939⟩, A740, H⟩ := H
      try dsimp only at H
      have A74 := Aside0.mk A740
      clear A740
      have HC75 := Aside0.mk H
      clear H
      try go_wp2
      replace HO_910001 := Aside0.mk (Kd.R_drew HO_910001.out)
      replace HO_910002 := Aside0.mk (Kd.R_drew HO_910002.out)
      replace HO_918001 := Aside0.mk (Kd.R_drew HO_918001.out)
      replace HO_918002 := Aside0.mk (Kd.R_drew HO_918002.out)
      replace HO_928001 := Aside0.mk (Kd.R_drew HO_928001.out)
      replace HO_928002 := Aside0.mk (Kd.R_drew HO_928002.out)
      replace BK891 := Aside0.mk (blk_drew BK891.out)
      replace BK909 := Aside0.mk (blk_drew BK909.out)
      replace BK917 := Aside0.mk (blk_drew BK917.out)
      replace BK927 := Aside0.mk (blk_drew BK927.out)
      replace HB := Aside0.mk (below_drew1 HB.out)
      refine start_ (n := 5) (S := fun w' => w'.cell? ⟨gb917, 0, none⟩ = some (.int .i64 t910) ∧ w'.cell? ⟨gb917, 1, none⟩ = some (.slice Ao33 t911.length co33) ∧ w'.cell? ⟨gb917, 2, none⟩ = some (.slice Ao34 t914.length co34) ∧ w'.cell? ⟨gb891, 0, none⟩ = some (.int .i64 a0_0) ∧ w'.cell? ⟨gb891, 1, none⟩ = some (.slice A0_1 l0_1.length c0_1) ∧ w'.cell? ⟨gb891, 2, none⟩ = some (.slice A0_2 l0_2.length c0_2)) (ds := []) #[false, false, false, false, false] (by kernel_rfl) rfl rfl ⟨(blk_cell BK917.out 0).trans rfl, (blk_cell BK917.out 1).trans rfl, (blk_cell BK917.out 2).trans rfl, (blk_cell BK891.out 0).trans rfl, (blk_cell BK891.out 1).trans rfl, (blk_cell BK891.out 2).trans rfl⟩ (fun hHeld => ?_)
      generalize wc.drew = w76 at HO_910001 HO_910002 HO_918001 HO_918002 HO_928001 HO_928002 BK891 BK909 BK917 BK927 HB hHeld ⊢
      refine take_ (i := 0) (N := some 59) (v := ?_) (a' := ?_) #[true, false, false, false, false] rfl rfl (by kernel_rfl) (fun _ _ _ h => h) (Or.inl ⟨by rfl, ?_⟩) hHeld ?_ ?_
      rotate_left
      ·rintro w' ⟨s0, s1, s2, s3, s4, s5⟩
       go_simp
       with_reducible rfl
      rotate_left
      ·simp only [Act.put, List.setIfInBounds_toArray, List.set_cons_zero, List.set_cons_succ, i64_w, i32_w]
       rfl
      refine take_ (i := 1) (N := some 60) (v := ?_) (a' := ?_) #[true, true, false, false, false] rfl rfl (by kernel_rfl) (fun _ _ _ h => h) (Or.inl ⟨by rfl, ?_⟩) hHeld ?_ ?_
      rotate_left
      ·rintro w' ⟨s0, s1, s2, s3, s4, s5⟩
       go_simp
       with_reducible rfl
      rotate_left
      ·simp only [Act.put, List.setIfInBounds_toArray, List.set_cons_zero, List.set_cons_succ, i64_w, i32_w]
       rfl
      refine one_ (i := 2) (N := some 61) #[true, true, true, false, false] rfl rfl (by kernel_rfl) (by decide) (fun K hK => ?_)
      refine goes_ Try.func38 (by kernel_rfl) rfl #[.agg #[.int .i64 a0_0, .slice A0_1 l0_1.length c0_1, .slice A0_2 l0_2.length c0_2]] (by rfl) rfl rfl mapd ?_
      with_reducible refine (laws_toColumn.calls kj12 a0_0 _ _ l0_1 _ _ l0_2 t929 t930 t933 _ ?side1 ?side2 ?side3 ?side4 A71.out).mono ?_
      (case side1 => exact cb (Kd.C_below HR0_1.out HB.out))
      (case side2 => exact HC0_1.out)
      (case side3 => exact cb (Kd.C_below HR0_2.out HB.out))
      (case side4 => exact HC0_2.out)
      rintro e w77 ⟨v931, v934, rfl, ho0, ho1, hb⟩
      refine ⟨_, rfl, ?_⟩
      have HO932 := Aside0.mk (Kd.R_lower (Kd.R_new' (Kd.R_new' (Kd.R_new' ho0 (Kd.R_lt (rk HO_910001.out))) (Kd.R_lt (rk HO_918001.out))) (Kd.R_lt (rk HO_928001.out))) (below_size (bl HB.out)))
      replace HO_910001 := Aside0.mk (Kd.R_elder' (rk HO_910001.out) (Kd.R_base ho0) hb)
      replace HO_918001 := Aside0.mk (Kd.R_elder' (rk HO_918001.out) (Kd.R_base ho0) hb)
      replace HO_928001 := Aside0.mk (Kd.R_elder' (rk HO_928001.out) (Kd.R_base ho0) hb)
      have HO935 := Aside0.mk (Kd.R_lower (Kd.R_new' (Kd.R_new' (Kd.R_new' ho1 (Kd.R_lt (rk HO_910002.out))) (Kd.R_lt (rk HO_918002.out))) (Kd.R_lt (rk HO_928002.out))) (below_size (bl HB.out)))
      replace HO_910002 := Aside0.mk (Kd.R_elder' (rk HO_910002.out) (Kd.R_base ho1) hb)
      replace HO_918002 := Aside0.mk (Kd.R_elder' (rk HO_918002.out) (Kd.R_base ho1) hb)
      replace HO_928002 := Aside0.mk (Kd.R_elder' (rk HO_928002.out) (Kd.R_base ho1) hb)
      replace BK891 := Aside0.mk (bb BK891.out hb)
      replace BK909 := Aside0.mk (bb BK909.out hb)
      replace BK917 := Aside0.mk (bb BK917.out hb)
      replace BK927 := Aside0.mk (bb BK927.out hb)
      replace HB := Aside0.mk (below_step (bl HB.out) hb)
      (try clear hb)
      (try clear hb2)
      (try clear hk)
      (try clear hi)
      (try clear ho0)
      (try clear ho1)
      obtain ⟨Ao78, co78, eo78⟩ := Kd.R_slice HO932.out
      (first | subst eo78 | (injection eo78 with f1_ f2_ f3_; have f4_ := f1_.symm; have f5_ := f3_.symm; clear f1_ f2_ f3_; subst f4_; subst f5_))
      obtain ⟨Ao79, co79, eo79⟩ := Kd.R_slice HO935.out
      (first | subst eo79 | (injection eo79 with f1_ f2_ f3_; have f4_ := f1_.symm; have f5_ := f3_.symm; clear f1_ f2_ f3_; subst f4_; subst f5_))
      refine hK.out _ _ ⟨(blk_cell BK917.out 0).trans rfl, (blk_cell BK917.out 1).trans rfl, (blk_cell BK917.out 2).trans rfl, (blk_cell BK891.out 0).trans rfl, (blk_cell BK891.out 1).trans rfl, (blk_cell BK891.out 2).trans rfl⟩ (fun hHeld => ?_)
      clear hK K
      refine norm_ (a' := ?_) ?_ ?_
      rotate_left
      ·show Act.put _ (some 61) _ = _
       simp only [Act.put, List.setIfInBounds_toArray, List.set_cons_zero, List.set_cons_succ, i64_w, i32_w]
       rfl
      refine one_ (i := 3) (N := some 62) #[true, true, true, true, false] rfl rfl (by kernel_rfl) (by decide) (fun K hK => ?_)
      refine goes_ Try.func39 (by kernel_rfl) rfl #[.agg #[.int .i64 t910, .slice Ao33 t911.length co33, .slice Ao34 t914.length co34], .agg #[.int .i64 t929, .slice Ao78 t930.length co78, .slice Ao79 t933.length co79]] (by rfl) rfl rfl mapd ?_
      with_reducible refine (laws_eqColumn.calls kj12 t910 _ _ t911 _ _ t914 t929 _ _ t930 _ _ t933 true _ ?side1 ?side2 ?side3 ?side4 ?side5 ?side6 ?side7 ?side8 A72.out).mono ?_
      (case side1 => exact cb ((Kd.R_reads' HO_918001.out).2.2))
      (case side2 => exact (Kd.R_reads' HO_918001.out).2.1)
      (case side3 => exact cb ((Kd.R_reads' HO_918002.out).2.2))
      (case side4 => exact (Kd.R_reads' HO_918002.out).2.1)
      (case side5 => exact cb ((Kd.R_reads' HO932.out).2.2))
      (case side6 => exact (Kd.R_reads' HO932.out).2.1)
      (case side7 => exact cb ((Kd.R_reads' HO935.out).2.2))
      (case side8 => exact (Kd.R_reads' HO935.out).2.1)
      rintro e w80 ⟨rfl, hb⟩
      refine ⟨_, rfl, ?_⟩
      replace HO_910001 := Aside0.mk (Kd.R_below (rk HO_910001.out) hb)
      replace HO_910002 := Aside0.mk (Kd.R_below (rk HO_910002.out) hb)
      replace HO_918001 := Aside0.mk (Kd.R_below (rk HO_918001.out) hb)
      replace HO_918002 := Aside0.mk (Kd.R_below (rk HO_918002.out) hb)
      replace HO_928001 := Aside0.mk (Kd.R_below (rk HO_928001.out) hb)
      replace HO_928002 := Aside0.mk (Kd.R_below (rk HO_928002.out) hb)
      replace HO932 := Aside0.mk (Kd.R_below (rk HO932.out) hb)
      replace HO935 := Aside0.mk (Kd.R_below (rk HO935.out) hb)
      replace BK891 := Aside0.mk (bb BK891.out hb)
      replace BK909 := Aside0.mk (bb BK909.out hb)
      replace BK917 := Aside0.mk (bb BK917.out hb)
      replace BK927 := Aside0.mk (bb BK927.out hb)
      replace HB := Aside0.mk (below_step (bl HB.out) hb)
      (try clear hb)
      (try clear hb2)
      (try clear hk)
      (try clear hi)
      refine hK.out _ _ ⟨(blk_cell BK917.out 0).trans rfl, (blk_cell BK917.out 1).trans rfl, (blk_cell BK917.out 2).trans rfl, (blk_cell BK891.out 0).trans rfl, (blk_cell BK891.out 1).trans rfl, (blk_cell BK891.out 2).trans rfl⟩ (fun hHeld => ?_)
      clear hK K
      refine norm_ (a' := ?_) ?_ ?_
      rotate_left
      ·show Act.put _ (some 62) _ = _
       simp only [Act.put, List.setIfInBounds_toArray, List.set_cons_zero, List.set_cons_succ, i64_w, i32_w]
       rfl
      refine pure_ (i := 4) (N := some 63) (v := ?_) (a' := ?_) #[true, true, true, true, true] rfl rfl (by kernel_rfl) (fun _ _ _ h => h) (Or.inl ⟨by rfl, ?_⟩) ?_ ?_
      rotate_left
      ·intro w'
       go_simp
       with_reducible rfl
      rotate_left
      ·simp only [Act.put, List.setIfInBounds_toArray, List.set_cons_zero, List.set_cons_succ, i64_w, i32_w]
       rfl
      refine done_ (by kernel_rfl) ?_
      have hnb81 := NB917_891.out
      have hnc81 := NB891_917.out
      have hnb82 := NB917_909.out
      have hnc82 := NB909_917.out
      have hnb83 := NB917_927.out
      have hnc83 := NB927_917.out
      obtain ⟨hcz84_0, hcz84_1, hcz84_2, hfz84_0, hfz84_1, hfz84_2⟩ := cz3 BK917.out
      go_upto_region 14 with (first | ((with_reducible refine gate_callee (f := 40) rfl ?_); refine goesL_ (some 66) rfl rfl Try.func40 (by kernel_rfl) rfl #[.agg #[.int .i64 t910, .slice Ao33 t911.length co33, .slice Ao34 t914.length co34], .int .i64 1] rfl mapd ?_; (with_reducible refine (laws_markColumn.calls kj12 t910 (fun k_ => some k_ = (.slice Ao33 t911.length co33 : Value).ownBlock) (.slice Ao33 t911.length co33) t911 (fun k_ => some k_ = (.slice Ao34 t914.length co34 : Value).ownBlock) (.slice Ao34 t914.length co34) t914 1 t937 t938 t939 w _ ?side1 ?side2 ?side3 A74.out).mono ?_); (case side1 => repeat (first | (with_reducible first | exact HB.out | apply below_alloc | apply pw_below_drewN | apply below_drew1 | refine below_set ?_ GE891.out | refine below_set ?_ GE909.out | refine below_set ?_ GE917.out | refine below_set ?_ GE927.out) | exact HB.out)); (case side2 => exact Kd.R_tight rfl HO_918001.out); (case side3 => exact Kd.R_tight rfl HO_918002.out); rintro e w85 ⟨rfl, hy0, hy1, hb, hkp⟩; refine ⟨_, rfl, ?_⟩; replace HO_910001 := Aside0.mk (Kd.R_mono (ok' := fun k_ => some k_ ≠ (.slice Ao33 t911.length co33 : Value).ownBlock ∧ some k_ ≠ (.slice Ao41 t919.length co41 : Value).ownBlock ∧ some k_ ≠ (.slice Ao78 t930.length co78 : Value).ownBlock) (Kd.R_keptB ((Kd.R_apart' HO_910001.out (Kd.R_typed HO_918002.out) (by decide))) hkp (fun k_ hk_ hs_ => Or.elim hs_ (fun e_ => (hk_.1.1.1) e_) (fun e_ => (hk_.2) e_))) (fun k_ hk_ => ⟨hk_.1.1.1.1, hk_.1.1.1.2, hk_.1.1.2⟩)); replace HO_910002 := Aside0.mk (Kd.R_mono (ok' := fun k_ => some k_ ≠ (.slice Ao34 t914.length co34 : Value).ownBlock ∧ some k_ ≠ (.slice Ao42 t922.length co42 : Value).ownBlock ∧ some k_ ≠ (.slice Ao79 t933.length co79 : Value).ownBlock) (Kd.R_keptB ((Kd.R_apart' HO_910002.out (Kd.R_typed HO_918001.out) (by decide))) hkp (fun k_ hk_ hs_ => Or.elim hs_ (fun e_ => (hk_.2) e_) (fun e_ => (hk_.1.1.1) e_))) (fun k_ hk_ => ⟨hk_.1.1.1.1, hk_.1.1.1.2, hk_.1.1.2⟩)); replace HO_928001 := Aside0.mk (Kd.R_mono (ok' := fun k_ => some k_ ≠ (.slice Ao25 t901.length co25 : Value).ownBlock ∧ some k_ ≠ (.slice Ao33 t911.length co33 : Value).ownBlock ∧ some k_ ≠ (.slice Ao78 t930.length co78 : Value).ownBlock) (Kd.R_keptB ((Kd.R_apart' HO_928001.out (Kd.R_typed HO_918002.out) (by decide))) hkp (fun k_ hk_ hs_ => Or.elim hs_ (fun e_ => (hk_.1.1.2) e_) (fun e_ => (hk_.2) e_))) (fun k_ hk_ => ⟨hk_.1.1.1.1, hk_.1.1.1.2, hk_.1.1.2⟩)); replace HO_928002 := Aside0.mk (Kd.R_mono (ok' := fun k_ => some k_ ≠ (.slice Ao26 t904.length co26 : Value).ownBlock ∧ some k_ ≠ (.slice Ao34 t914.length co34 : Value).ownBlock ∧ some k_ ≠ (.slice Ao79 t933.length co79 : Value).ownBlock) (Kd.R_keptB ((Kd.R_apart' HO_928002.out (Kd.R_typed HO_918001.out) (by decide))) hkp (fun k_ hk_ hs_ => Or.elim hs_ (fun e_ => (hk_.2) e_) (fun e_ => (hk_.1.1.2) e_))) (fun k_ hk_ => ⟨hk_.1.1.1.1, hk_.1.1.1.2, hk_.1.1.2⟩)); replace BK891 := Aside0.mk (blk_kept (bk BK891.out) hkp (fun hs_ => Or.elim hs_ (fun e_ => (fun e_ => (Kd.R_ne HO_918001.out BK891.out (by decide)) e_) e_) (fun e_ => (fun e_ => (Kd.R_ne HO_918002.out BK891.out (by decide)) e_) e_))); replace BK909 := Aside0.mk (blk_kept (bk BK909.out) hkp (fun hs_ => Or.elim hs_ (fun e_ => (fun e_ => (Kd.R_ne HO_918001.out BK909.out (by decide)) e_) e_) (fun e_ => (fun e_ => (Kd.R_ne HO_918002.out BK909.out (by decide)) e_) e_))); replace BK917 := Aside0.mk (blk_kept (bk BK917.out) hkp (fun hs_ => Or.elim hs_ (fun e_ => (fun e_ => (Kd.R_ne HO_918001.out BK917.out (by decide)) e_) e_) (fun e_ => (fun e_ => (Kd.R_ne HO_918002.out BK917.out (by decide)) e_) e_))); replace BK927 := Aside0.mk (blk_kept (bk BK927.out) hkp (fun hs_ => Or.elim hs_ (fun e_ => (fun e_ => (Kd.R_ne HO_918001.out BK927.out (by decide)) e_) e_) (fun e_ => (fun e_ => (Kd.R_ne HO_918002.out BK927.out (by decide)) e_) e_))); replace HO932 := Aside0.mk (Kd.R_mono (ok' := fun k_ => some k_ ≠ (.slice Ao25 t901.length co25 : Value).ownBlock ∧ some k_ ≠ (.slice Ao33 t911.length co33 : Value).ownBlock ∧ some k_ ≠ (.slice Ao41 t919.length co41 : Value).ownBlock) (Kd.R_keptB ((Kd.R_apart' HO932.out (Kd.R_typed HO_918002.out) (by decide))) hkp (fun k_ hk_ hs_ => Or.elim hs_ (fun e_ => (hk_.1.1.2) e_) (fun e_ => (hk_.2) e_))) (fun k_ hk_ => ⟨hk_.1.1.1.1.2, hk_.1.1.1.2, hk_.1.1.2⟩)); replace HO_918002 := Aside0.mk (Kd.R_reok rfl hy1 (fun k_ e_ => HO_918002.out.1 k_ e_)); replace HO935 := Aside0.mk (Kd.R_mono (ok' := fun k_ => some k_ ≠ (.slice Ao26 t904.length co26 : Value).ownBlock ∧ some k_ ≠ (.slice Ao34 t914.length co34 : Value).ownBlock ∧ some k_ ≠ (.slice Ao42 t922.length co42 : Value).ownBlock) (Kd.R_keptB ((Kd.R_apart' HO935.out (Kd.R_typed HO_918001.out) (by decide))) hkp (fun k_ hk_ hs_ => Or.elim hs_ (fun e_ => (hk_.2) e_) (fun e_ => (hk_.1.1.2) e_))) (fun k_ hk_ => ⟨hk_.1.1.1.1.2, hk_.1.1.1.2, hk_.1.1.2⟩)); replace HO_918001 := Aside0.mk (Kd.R_reok rfl hy0 (fun k_ e_ => HO_918001.out.1 k_ e_)); replace HB := Aside0.mk (hb); (try clear hb); (try clear hkp); (try clear hy0); (try clear hy1)))
      (try simp only [Act.put, List.setIfInBounds_toArray, List.set_cons_zero, List.set_cons_succ])
      go_cut [84] (fun v84 wc => ∃ (kq : Nat) (x84_74 : Bool), v84 = .bool x84_74 ∧ Aside0 (laws_FnExactPutIn.j1 kq a1 a2 t907 t908 x84_74 a0_0 l0_1 l0_2 t900 t901 t904 t918 t919 t922 = some r) ∧ Aside0 (kq ≤ kj12) ∧ Aside0 (Kd.R (Kd.int .i64) 3 wc w.heap.size (fun k_ => some k_ ≠ ((.slice Ao33 t911.length co33) : Value).ownBlock ∧ some k_ ≠ ((.slice Ao41 t919.length co41) : Value).ownBlock) (.slice Ao25 t901.length co25) t901) ∧ Aside0 (Kd.R k98 98 wc w.heap.size (fun k_ => some k_ ≠ ((.slice Ao34 t914.length co34) : Value).ownBlock ∧ some k_ ≠ ((.slice Ao42 t922.length co42) : Value).ownBlock) (.slice Ao26 t904.length co26) t904) ∧ Aside0 (Kd.R (Kd.int .i64) 3 wc w.heap.size (fun k_ => some k_ ≠ ((.slice Ao25 t901.length co25) : Value).ownBlock ∧ some k_ ≠ ((.slice Ao41 t919.length co41) : Value).ownBlock) (.slice Ao33 t911.length co33) t938) ∧ Aside0 (Kd.R k98 98 wc w.heap.size (fun k_ => some k_ ≠ ((.slice Ao26 t904.length co26) : Value).ownBlock ∧ some k_ ≠ ((.slice Ao42 t922.length co42) : Value).ownBlock) (.slice Ao34 t914.length co34) t939) ∧ Aside0 (Kd.R (Kd.int .i64) 3 wc w.heap.size (fun k_ => some k_ ≠ ((.slice Ao25 t901.length co25) : Value).ownBlock ∧ some k_ ≠ ((.slice Ao33 t911.length co33) : Value).ownBlock) (.slice Ao41 t919.length co41) t919) ∧ Aside0 (Kd.R k98 98 wc w.heap.size (fun k_ => some k_ ≠ ((.slice Ao26 t904.length co26) : Value).ownBlock ∧ some k_ ≠ ((.slice Ao34 t914.length co34) : Value).ownBlock) (.slice Ao42 t922.length co42) t922) ∧ Aside0 (wc.heap[gb891]? = some (.cells #[.int .i64 a0_0, (.slice A0_1 l0_1.length c0_1), (.slice A0_2 l0_2.length c0_2)] 58 (0, 0))) ∧ Aside0 (wc.heap[gb909]? = some (.cells #[.int .i64 t900, (.slice Ao25 t901.length co25), (.slice Ao26 t904.length co26)] 41 (0, 0))) ∧ Aside0 (wc.heap[gb917]? = some (.cells #[.int .i64 t910, (.slice Ao33 t911.length co33), (.slice Ao34 t914.length co34)] 41 (0, 0))) ∧ Aside0 (wc.heap[gb927]? = some (.cells #[.int .i64 t918, (.slice Ao41 t919.length co41), (.slice Ao42 t922.length co42)] 41 (0, 0))) ∧ Aside0 (Below w.heap.size w wc))
      case first =>
       have H := HC75.out
       clear HC75
       by_cases c86 : t937 < 0
       ·rw [if_pos c86] at H
        have c86b0 : decide (t937 < 0) = true := decide_eq_true c86
        clear c86
        (first | rw [c86b0] | (simp only [i64_w, i32_w]; rw [c86b0]) | skip)
        have H' := Aside0.mk H
        clear H
        go_wp2
        go_meet
        case rel => exact ⟨_, (true), (by first | rfl | (simp; done) | (simp [*]; done)), H', ⟨by have := HJ12.out; first | omega | exact Nat.le_refl _⟩, ⟨by refine rk ?_; exact Kd.R_mono HO_910001.out (fun _ hk => ⟨hk.1, hk.2.1⟩)⟩, ⟨by refine rk ?_; exact Kd.R_mono HO_910002.out (fun _ hk => ⟨hk.1, hk.2.1⟩)⟩, ⟨by refine rk ?_; exact Kd.R_mono HO_918001.out (fun _ hk => ⟨hk.1.1, hk.1.2⟩)⟩, ⟨by refine rk ?_; exact Kd.R_mono HO_918002.out (fun _ hk => ⟨hk.1.1, hk.1.2⟩)⟩, ⟨by refine rk ?_; exact Kd.R_mono HO_928001.out (fun _ hk => ⟨hk.1, hk.2.1⟩)⟩, ⟨by refine rk ?_; exact Kd.R_mono HO_928002.out (fun _ hk => ⟨hk.1, hk.2.1⟩)⟩, ⟨by refine bk ?_; exact BK891.out⟩, ⟨by refine bk ?_; exact BK909.out⟩, ⟨by refine bk ?_; exact BK917.out⟩, ⟨by refine bk ?_; exact BK927.out⟩, ⟨bl HB.out⟩⟩
       ·rw [if_neg c86] at H
        have c86b0 : decide (t937 < 0) = false := decide_eq_false c86
        clear c86
        (first | rw [c86b0] | (simp only [i64_w, i32_w]; rw [c86b0]) | skip)
        replace H := Option.bind_eq_some_iff.mp H
        obtain ⟨t940, A870, H⟩ := H
        try dsimp only at H
        have A87 := Aside0.mk A870
        clear A870
        by_cases c88 : t940 = true
        ·subst c88
         rw [if_pos rfl] at H
         by_cases c89 : t925 = t907
         ·rw [if_pos c89] at H
          have c89b0 : (t925 == t907) = true := beq_iff_eq.mpr c89
          have c89b1 : (t925 != t907) = false := bne_eq_false_iff_eq.mpr c89
          clear c89
          have H' := Aside0.mk H
          clear H
          have hnb90 := NB927_891.out
          have hnc90 := NB891_927.out
          have hnb91 := NB927_909.out
          have hnc91 := NB909_927.out
          have hnb92 := NB927_917.out
          have hnc92 := NB917_927.out
          obtain ⟨hcz93_0, hcz93_1, hcz93_2, hfz93_0, hfz93_1, hfz93_2⟩ := cz3 BK927.out
          have hnb94 := NB909_891.out
          have hnc94 := NB891_909.out
          have hnb95 := NB909_917.out
          have hnc95 := NB917_909.out
          obtain ⟨hcz96_0, hcz96_1, hcz96_2, hfz96_0, hfz96_1, hfz96_2⟩ := cz3 BK909.out
          go_wp2_with (first | (go_at_call 39; (with_reducible refine (laws_eqColumn.calls kj12 t918 _ _ t919 _ _ t922 t900 _ _ t901 _ _ t904 true _ ?side1 ?side2 ?side3 ?side4 ?side5 ?side6 ?side7 ?side8 A87.out).mono ?_); (case side1 => exact cb ((Kd.R_reads' HO_928001.out).2.2)); (case side2 => exact (Kd.R_reads' HO_928001.out).2.1); (case side3 => exact cb ((Kd.R_reads' HO_928002.out).2.2)); (case side4 => exact (Kd.R_reads' HO_928002.out).2.1); (case side5 => exact cb ((Kd.R_reads' HO_910001.out).2.2)); (case side6 => exact (Kd.R_reads' HO_910001.out).2.1); (case side7 => exact cb ((Kd.R_reads' HO_910002.out).2.2)); (case side8 => exact (Kd.R_reads' HO_910002.out).2.1); rintro e w97 ⟨rfl, hb⟩; replace HO_910001 := Aside0.mk (Kd.R_below (rk HO_910001.out) hb); replace HO_910002 := Aside0.mk (Kd.R_below (rk HO_910002.out) hb); replace HO_918001 := Aside0.mk (Kd.R_below (rk HO_918001.out) hb); replace HO_918002 := Aside0.mk (Kd.R_below (rk HO_918002.out) hb); replace HO_928001 := Aside0.mk (Kd.R_below (rk HO_928001.out) hb); replace HO_928002 := Aside0.mk (Kd.R_below (rk HO_928002.out) hb); replace HO932 := Aside0.mk (Kd.R_below (rk HO932.out) hb); replace HO935 := Aside0.mk (Kd.R_below (rk HO935.out) hb); replace BK891 := Aside0.mk (bb BK891.out hb); replace BK909 := Aside0.mk (bb BK909.out hb); replace BK917 := Aside0.mk (bb BK917.out hb); replace BK927 := Aside0.mk (bb BK927.out hb); replace HB := Aside0.mk (below_step (bl HB.out) hb); (try clear hb); (try clear hb2); (try clear hk); (try clear hi)))
          go_meet
          case rel => exact ⟨_, ((t926 != t908)), (by first | rfl | (simp; done) | (simp [*]; done)), H', ⟨by have := HJ12.out; first | omega | exact Nat.le_refl _⟩, ⟨by refine rk ?_; exact Kd.R_mono HO_910001.out (fun _ hk => ⟨hk.1, hk.2.1⟩)⟩, ⟨by refine rk ?_; exact Kd.R_mono HO_910002.out (fun _ hk => ⟨hk.1, hk.2.1⟩)⟩, ⟨by refine rk ?_; exact Kd.R_mono HO_918001.out (fun _ hk => ⟨hk.1.1, hk.1.2⟩)⟩, ⟨by refine rk ?_; exact Kd.R_mono HO_918002.out (fun _ hk => ⟨hk.1.1, hk.1.2⟩)⟩, ⟨by refine rk ?_; exact Kd.R_mono HO_928001.out (fun _ hk => ⟨hk.1, hk.2.1⟩)⟩, ⟨by refine rk ?_; exact Kd.R_mono HO_928002.out (fun _ hk => ⟨hk.1, hk.2.1⟩)⟩, ⟨by refine bk ?_; exact BK891.out⟩, ⟨by refine bk ?_; exact BK909.out⟩, ⟨by refine bk ?_; exact BK917.out⟩, ⟨by refine bk ?_; exact BK927.out⟩, ⟨bl HB.out⟩⟩
         ·rw [if_neg c89] at H
          have c89b0 : (t925 == t907) = false := beq_eq_false_iff_ne.mpr c89
          have c89b1 : (t925 != t907) = true := bne_iff_ne.mpr c89
          have H' := Aside0.mk H
          clear H
          have hnb98 := NB927_891.out
          have hnc98 := NB891_927.out
          have hnb99 := NB927_909.out
          have hnc99 := NB909_927.out
          have hnb100 := NB927_917.out
          have hnc100 := NB917_927.out
          obtain ⟨hcz101_0, hcz101_1, hcz101_2, hfz101_0, hfz101_1, hfz101_2⟩ := cz3 BK927.out
          have hnb102 := NB909_891.out
          have hnc102 := NB891_909.out
          have hnb103 := NB909_917.out
          have hnc103 := NB917_909.out
          obtain ⟨hcz104_0, hcz104_1, hcz104_2, hfz104_0, hfz104_1, hfz104_2⟩ := cz3 BK909.out
          go_wp2_with (first | (go_at_call 39; (with_reducible refine (laws_eqColumn.calls kj12 t918 _ _ t919 _ _ t922 t900 _ _ t901 _ _ t904 true _ ?side1 ?side2 ?side3 ?side4 ?side5 ?side6 ?side7 ?side8 A87.out).mono ?_); (case side1 => exact cb ((Kd.R_reads' HO_928001.out).2.2)); (case side2 => exact (Kd.R_reads' HO_928001.out).2.1); (case side3 => exact cb ((Kd.R_reads' HO_928002.out).2.2)); (case side4 => exact (Kd.R_reads' HO_928002.out).2.1); (case side5 => exact cb ((Kd.R_reads' HO_910001.out).2.2)); (case side6 => exact (Kd.R_reads' HO_910001.out).2.1); (case side7 => exact cb ((Kd.R_reads' HO_910002.out).2.2)); (case side8 => exact (Kd.R_reads' HO_910002.out).2.1); rintro e w105 ⟨rfl, hb⟩; replace HO_910001 := Aside0.mk (Kd.R_below (rk HO_910001.out) hb); replace HO_910002 := Aside0.mk (Kd.R_below (rk HO_910002.out) hb); replace HO_918001 := Aside0.mk (Kd.R_below (rk HO_918001.out) hb); replace HO_918002 := Aside0.mk (Kd.R_below (rk HO_918002.out) hb); replace HO_928001 := Aside0.mk (Kd.R_below (rk HO_928001.out) hb); replace HO_928002 := Aside0.mk (Kd.R_below (rk HO_928002.out) hb); replace HO932 := Aside0.mk (Kd.R_below (rk HO932.out) hb); replace HO935 := Aside0.mk (Kd.R_below (rk HO935.out) hb); replace BK891 := Aside0.mk (bb BK891.out hb); replace BK909 := Aside0.mk (bb BK909.out hb); replace BK917 := Aside0.mk (bb BK917.out hb); replace BK927 := Aside0.mk (bb BK927.out hb); replace HB := Aside0.mk (below_step (bl HB.out) hb); (try clear hb); (try clear hb2); (try clear hk); (try clear hi)))
          go_meet
          case rel => exact ⟨_, (true), (by first | rfl | (simp; done) | (simp [*]; done)), H', ⟨by have := HJ12.out; first | omega | exact Nat.le_refl _⟩, ⟨by refine rk ?_; exact Kd.R_mono HO_910001.out (fun _ hk => ⟨hk.1, hk.2.1⟩)⟩, ⟨by refine rk ?_; exact Kd.R_mono HO_910002.out (fun _ hk => ⟨hk.1, hk.2.1⟩)⟩, ⟨by refine rk ?_; exact Kd.R_mono HO_918001.out (fun _ hk => ⟨hk.1.1, hk.1.2⟩)⟩, ⟨by refine rk ?_; exact Kd.R_mono HO_918002.out (fun _ hk => ⟨hk.1.1, hk.1.2⟩)⟩, ⟨by refine rk ?_; exact Kd.R_mono HO_928001.out (fun _ hk => ⟨hk.1, hk.2.1⟩)⟩, ⟨by refine rk ?_; exact Kd.R_mono HO_928002.out (fun _ hk => ⟨hk.1, hk.2.1⟩)⟩, ⟨by refine bk ?_; exact BK891.out⟩, ⟨by refine bk ?_; exact BK909.out⟩, ⟨by refine bk ?_; exact BK917.out⟩, ⟨by refine bk ?_; exact BK927.out⟩, ⟨bl HB.out⟩⟩
        ·replace c88 := Bool.eq_false_iff.mpr c88
         subst c88
         rw [if_neg (show ¬ (false = true) by decide)] at H
         have H' := Aside0.mk H
         clear H
         have hnb106 := NB927_891.out
         have hnc106 := NB891_927.out
         have hnb107 := NB927_909.out
         have hnc107 := NB909_927.out
         have hnb108 := NB927_917.out
         have hnc108 := NB917_927.out
         obtain ⟨hcz109_0, hcz109_1, hcz109_2, hfz109_0, hfz109_1, hfz109_2⟩ := cz3 BK927.out
         have hnb110 := NB909_891.out
         have hnc110 := NB891_909.out
         have hnb111 := NB909_917.out
         have hnc111 := NB917_909.out
         obtain ⟨hcz112_0, hcz112_1, hcz112_2, hfz112_0, hfz112_1, hfz112_2⟩ := cz3 BK909.out
         go_wp2_with (first | (go_at_call 39; (with_reducible refine (laws_eqColumn.calls kj12 t918 _ _ t919 _ _ t922 t900 _ _ t901 _ _ t904 false _ ?side1 ?side2 ?side3 ?side4 ?side5 ?side6 ?side7 ?side8 A87.out).mono ?_); (case side1 => exact cb ((Kd.R_reads' HO_928001.out).2.2)); (case side2 => exact (Kd.R_reads' HO_928001.out).2.1); (case side3 => exact cb ((Kd.R_reads' HO_928002.out).2.2)); (case side4 => exact (Kd.R_reads' HO_928002.out).2.1); (case side5 => exact cb ((Kd.R_reads' HO_910001.out).2.2)); (case side6 => exact (Kd.R_reads' HO_910001.out).2.1); (case side7 => exact cb ((Kd.R_reads' HO_910002.out).2.2)); (case side8 => exact (Kd.R_reads' HO_910002.out).2.1); rintro e w113 ⟨rfl, hb⟩; replace HO_910001 := Aside0.mk (Kd.R_below (rk HO_910001.out) hb); replace HO_910002 := Aside0.mk (Kd.R_below (rk HO_910002.out) hb); replace HO_918001 := Aside0.mk (Kd.R_below (rk HO_918001.out) hb); replace HO_918002 := Aside0.mk (Kd.R_below (rk HO_918002.out) hb); replace HO_928001 := Aside0.mk (Kd.R_below (rk HO_928001.out) hb); replace HO_928002 := Aside0.mk (Kd.R_below (rk HO_928002.out) hb); replace HO932 := Aside0.mk (Kd.R_below (rk HO932.out) hb); replace HO935 := Aside0.mk (Kd.R_below (rk HO935.out) hb); replace BK891 := Aside0.mk (bb BK891.out hb); replace BK909 := Aside0.mk (bb BK909.out hb); replace BK917 := Aside0.mk (bb BK917.out hb); replace BK927 := Aside0.mk (bb BK927.out hb); replace HB := Aside0.mk (below_step (bl HB.out) hb); (try clear hb); (try clear hb2); (try clear hk); (try clear hi)))
         go_meet
         case rel => exact ⟨_, (true), (by first | rfl | (simp; done) | (simp [*]; done)), H', ⟨by have := HJ12.out; first | omega | exact Nat.le_refl _⟩, ⟨by refine rk ?_; exact Kd.R_mono HO_910001.out (fun _ hk => ⟨hk.1, hk.2.1⟩)⟩, ⟨by refine rk ?_; exact Kd.R_mono HO_910002.out (fun _ hk => ⟨hk.1, hk.2.1⟩)⟩, ⟨by refine rk ?_; exact Kd.R_mono HO_918001.out (fun _ hk => ⟨hk.1.1, hk.1.2⟩)⟩, ⟨by refine rk ?_; exact Kd.R_mono HO_918002.out (fun _ hk => ⟨hk.1.1, hk.1.2⟩)⟩, ⟨by refine rk ?_; exact Kd.R_mono HO_928001.out (fun _ hk => ⟨hk.1, hk.2.1⟩)⟩, ⟨by refine rk ?_; exact Kd.R_mono HO_928002.out (fun _ hk => ⟨hk.1, hk.2.1⟩)⟩, ⟨by refine bk ?_; exact BK891.out⟩, ⟨by refine bk ?_; exact BK909.out⟩, ⟨by refine bk ?_; exact BK917.out⟩, ⟨by refine bk ?_; exact BK927.out⟩, ⟨bl HB.out⟩⟩
      case rest =>
       clear HC75
       try clear c1
       try clear c2
       try clear p2
       try clear c3
       try clear c4
       try clear c5
       try clear c5b0
       try clear c6
       try clear c7
       try clear c8
       try clear c9
       try clear c10
       try clear c11
       try clear c23
       try clear c29
       try clear c30
       try clear c31
       try clear c37
       try clear c38
       try clear c39
       try clear c40
       try clear c44
       try clear c45
       try clear c45b0
       try clear c45b1
       try clear c46
       try clear c47
       try clear c48
       try clear c50
       try clear c51
       try clear c54
       try clear c55
       try clear c56
       try clear c58
       try clear c59
       try clear c62
       try clear c63
       try clear c64
       try clear c66
       try clear c67
       try clear c70
       try clear c73
       try clear c81
       try clear c82
       try clear c83
       try clear c86
       try clear c86b0
       try clear c88
       try clear c89
       try clear c89b0
       try clear c89b1
       try clear c90
       try clear c91
       try clear c92
       try clear c94
       try clear c95
       try clear c98
       try clear c99
       try clear c100
       try clear c102
       try clear c103
       try clear c106
       try clear c107
       try clear c108
       try clear c110
       try clear c111
       try clear hcz101_0
       try clear hcz101_1
       try clear hcz101_2
       try clear hcz104_0
       try clear hcz104_1
       try clear hcz104_2
       try clear hcz109_0
       try clear hcz109_1
       try clear hcz109_2
       try clear hcz112_0
       try clear hcz112_1
       try clear hcz112_2
       try clear hcz15_0
       try clear hcz15_1
       try clear hcz15_2
       try clear hcz17_0
       try clear hcz17_1
       try clear hcz17_2
       try clear hcz24_0
       try clear hcz24_1
       try clear hcz24_2
       try clear hcz27_0
       try clear hcz27_1
       try clear hcz27_2
       try clear hcz32_0
       try clear hcz32_1
       try clear hcz32_2
       try clear hcz40_0
       try clear hcz40_1
       try clear hcz40_2
       try clear hcz49_0
       try clear hcz49_1
       try clear hcz49_2
       try clear hcz52_0
       try clear hcz52_1
       try clear hcz52_2
       try clear hcz57_0
       try clear hcz57_1
       try clear hcz57_2
       try clear hcz60_0
       try clear hcz60_1
       try clear hcz60_2
       try clear hcz65_0
       try clear hcz65_1
       try clear hcz65_2
       try clear hcz68_0
       try clear hcz68_1
       try clear hcz68_2
       try clear hcz7_0
       try clear hcz7_1
       try clear hcz7_2
       try clear hcz84_0
       try clear hcz84_1
       try clear hcz84_2
       try clear hcz93_0
       try clear hcz93_1
       try clear hcz93_2
       try clear hcz96_0
       try clear hcz96_1
       try clear hcz96_2
       try clear hfz101_0
       try clear hfz101_1
       try clear hfz101_2
       try clear hfz104_0
       try clear hfz104_1
       try clear hfz104_2
       try clear hfz109_0
       try clear hfz109_1
       try clear hfz109_2
       try clear hfz112_0
       try clear hfz112_1
       try clear hfz112_2
       try clear hfz15_0
       try clear hfz15_1
       try clear hfz15_2
       try clear hfz17_0
       try clear hfz17_1
       try clear hfz17_2
       try clear hfz24_0
       try clear hfz24_1
       try clear hfz24_2
       try clear hfz27_0
       try clear hfz27_1
       try clear hfz27_2
       try clear hfz32_0
       try clear hfz32_1
       try clear hfz32_2
       try clear hfz40_0
       try clear hfz40_1
       try clear hfz40_2
       try clear hfz49_0
       try clear hfz49_1
       try clear hfz49_2
       try clear hfz52_0
       try clear hfz52_1
       try clear hfz52_2
       try clear hfz57_0
       try clear hfz57_1
       try clear hfz57_2
       try clear hfz60_0
       try clear hfz60_1
       try clear hfz60_2
       try clear hfz65_0
       try clear hfz65_1
       try clear hfz65_2
       try clear hfz68_0
       try clear hfz68_1
       try clear hfz68_2
       try clear hfz7_0
       try clear hfz7_1
       try clear hfz7_2
       try clear hfz84_0
       try clear hfz84_1
       try clear hfz84_2
       try clear hfz93_0
       try clear hfz93_1
       try clear hfz93_2
       try clear hfz96_0
       try clear hfz96_1
       try clear hfz96_2
       try clear p2
       obtain ⟨kq, x84_74, rfl, HA, HJ74, HO_910001, HO_910002, HO_918001, HO_918002, HO_928001, HO_928002, BK891, BK909, BK917, BK927, HB⟩ := hcut
       have hl918001_74 := (Kd.R_reads' HO_918001.out).1
       rw [hl918001_74] at HO_918001
       (try simp only [hl918001_74])
       (try simp only [hl918001_74] at BK891)
       (try simp only [hl918001_74] at BK909)
       (try simp only [hl918001_74] at BK917)
       (try simp only [hl918001_74] at BK927)
       (try simp only [hl918001_74] at HO_910001)
       (try simp only [hl918001_74] at HO_910002)
       (try simp only [hl918001_74] at HO_918002)
       (try simp only [hl918001_74] at HO_928001)
       (try simp only [hl918001_74] at HO_928002)
       have hl918002_74 := (Kd.R_reads' HO_918002.out).1
       rw [hl918002_74] at HO_918002
       (try simp only [hl918002_74])
       (try simp only [hl918002_74] at BK891)
       (try simp only [hl918002_74] at BK909)
       (try simp only [hl918002_74] at BK917)
       (try simp only [hl918002_74] at BK927)
       (try simp only [hl918002_74] at HO_910001)
       (try simp only [hl918002_74] at HO_910002)
       (try simp only [hl918002_74] at HO_918001)
       (try simp only [hl918002_74] at HO_928001)
       (try simp only [hl918002_74] at HO_928002)
       cases kq with
       | zero => exact absurd HA.out (by simp [laws_FnExactPutIn.j1])
       | succ kj74 =>
        have H := HA.out
        clear HA
        simp only [laws_FnExactPutIn.j1] at H
        by_cases c114 : x84_74 = true
        ·subst c114
         rw [if_pos rfl] at H
         exact absurd (Option.some.inj H) (by rw [hr_.out]; decide)
        ·replace c114 := Bool.eq_false_iff.mpr c114
         subst c114
         rw [if_neg (show ¬ (false = true) by decide)] at H
         replace H := Option.bind_eq_some_iff.mp H
         obtain ⟨⟨t941, t942, t943⟩, A1150, H⟩ := H
         try dsimp only at H
         have A115 := Aside0.mk A1150
         clear A1150
         replace H := Option.bind_eq_some_iff.mp H
         obtain ⟨t944, A1160, H⟩ := H
         try dsimp only at H
         have A116 := Aside0.mk A1160
         clear A1160
         by_cases c117 : t944 < 0
         ·rw [if_pos c117] at H
          have c117b0 : decide (t944 < 0) = true := decide_eq_true c117
          clear c117
          exact absurd (Option.some.inj H) (by rw [hr_.out]; decide)
         ·rw [if_neg c117] at H
          have c117b0 : decide (t944 < 0) = false := decide_eq_false c117
          clear c117
          by_cases c118 : t944 = t941
          ·rw [if_pos c118] at H
           have c118b0 : (t944 == t941) = true := beq_iff_eq.mpr c118
           have c118b1 : (t944 != t941) = false := bne_eq_false_iff_eq.mpr c118
           clear c118
           replace H := Option.bind_eq_some_iff.mp H
           obtain ⟨⟨t945, t946, t949⟩, A1190, H⟩ := H
           try dsimp only at H
           have A119 := Aside0.mk A1190
           clear A1190
           replace H := Option.bind_eq_some_iff.mp H
           obtain ⟨⟨t952, t953, t956, t959, t960⟩, A1200, H⟩ := H
           try dsimp only at H
           have A120 := Aside0.mk A1200
           clear A1200
           have HC121 := Aside0.mk H
           clear H
           have hnb122 := NB927_891.out
           have hnc122 := NB891_927.out
           have hnb123 := NB927_909.out
           have hnc123 := NB909_927.out
           have hnb124 := NB927_917.out
           have hnc124 := NB917_927.out
           obtain ⟨hcz125_0, hcz125_1, hcz125_2, hfz125_0, hfz125_1, hfz125_2⟩ := cz3 BK927.out
           go_upto_region 25 with (first | ((with_reducible refine gate_callee (f := 40) rfl ?_); refine goesL_ (some 87) rfl rfl Try.func40 (by kernel_rfl) rfl #[.agg #[.int .i64 t918, .slice Ao41 t919.length co41, .slice Ao42 t922.length co42], .int .i64 1] rfl mapd ?_; (with_reducible refine (laws_markColumn.calls kj74 t918 (fun k_ => some k_ = (.slice Ao41 t919.length co41 : Value).ownBlock) (.slice Ao41 t919.length co41) t919 (fun k_ => some k_ = (.slice Ao42 t922.length co42 : Value).ownBlock) (.slice Ao42 t922.length co42) t922 1 t941 t942 t943 w _ ?side1 ?side2 ?side3 A115.out).mono ?_); (case side1 => repeat (first | (with_reducible first | exact HB.out | apply below_alloc | apply pw_below_drewN | apply below_drew1 | refine below_set ?_ GE891.out | refine below_set ?_ GE909.out | refine below_set ?_ GE917.out | refine below_set ?_ GE927.out) | exact HB.out)); (case side2 => exact Kd.R_tight rfl HO_928001.out); (case side3 => exact Kd.R_tight rfl HO_928002.out); rintro e w126 ⟨rfl, hy0, hy1, hb, hkp⟩; refine ⟨_, rfl, ?_⟩; replace HO_910001 := Aside0.mk (Kd.R_mono (ok' := fun k_ => some k_ ≠ (.slice Ao33 t938.length co33 : Value).ownBlock ∧ some k_ ≠ (.slice Ao41 t919.length co41 : Value).ownBlock) (Kd.R_keptB ((Kd.R_apart' HO_910001.out (Kd.R_typed HO_928002.out) (by decide))) hkp (fun k_ hk_ hs_ => Or.elim hs_ (fun e_ => (hk_.1.2) e_) (fun e_ => (hk_.2) e_))) (fun k_ hk_ => ⟨hk_.1.1.1, hk_.1.1.2⟩)); replace HO_910002 := Aside0.mk (Kd.R_mono (ok' := fun k_ => some k_ ≠ (.slice Ao34 t939.length co34 : Value).ownBlock ∧ some k_ ≠ (.slice Ao42 t922.length co42 : Value).ownBlock) (Kd.R_keptB ((Kd.R_apart' HO_910002.out (Kd.R_typed HO_928001.out) (by decide))) hkp (fun k_ hk_ hs_ => Or.elim hs_ (fun e_ => (hk_.2) e_) (fun e_ => (hk_.1.2) e_))) (fun k_ hk_ => ⟨hk_.1.1.1, hk_.1.1.2⟩)); replace HO_918001 := Aside0.mk (Kd.R_mono (ok' := fun k_ => some k_ ≠ (.slice Ao25 t901.length co25 : Value).ownBlock ∧ some k_ ≠ (.slice Ao41 t919.length co41 : Value).ownBlock) (Kd.R_keptB ((Kd.R_apart' HO_918001.out (Kd.R_typed HO_928002.out) (by decide))) hkp (fun k_ hk_ hs_ => Or.elim hs_ (fun e_ => (hk_.1.2) e_) (fun e_ => (hk_.2) e_))) (fun k_ hk_ => ⟨hk_.1.1.1, hk_.1.1.2⟩)); replace HO_918002 := Aside0.mk (Kd.R_mono (ok' := fun k_ => some k_ ≠ (.slice Ao26 t904.length co26 : Value).ownBlock ∧ some k_ ≠ (.slice Ao42 t922.length co42 : Value).ownBlock) (Kd.R_keptB ((Kd.R_apart' HO_918002.out (Kd.R_typed HO_928001.out) (by decide))) hkp (fun k_ hk_ hs_ => Or.elim hs_ (fun e_ => (hk_.2) e_) (fun e_ => (hk_.1.2) e_))) (fun k_ hk_ => ⟨hk_.1.1.1, hk_.1.1.2⟩)); replace BK891 := Aside0.mk (blk_kept (bk BK891.out) hkp (fun hs_ => Or.elim hs_ (fun e_ => (fun e_ => (Kd.R_ne HO_928001.out BK891.out (by decide)) e_) e_) (fun e_ => (fun e_ => (Kd.R_ne HO_928002.out BK891.out (by decide)) e_) e_))); replace BK909 := Aside0.mk (blk_kept (bk BK909.out) hkp (fun hs_ => Or.elim hs_ (fun e_ => (fun e_ => (Kd.R_ne HO_928001.out BK909.out (by decide)) e_) e_) (fun e_ => (fun e_ => (Kd.R_ne HO_928002.out BK909.out (by decide)) e_) e_))); replace BK917 := Aside0.mk (blk_kept (bk BK917.out) hkp (fun hs_ => Or.elim hs_ (fun e_ => (fun e_ => (Kd.R_ne HO_928001.out BK917.out (by decide)) e_) e_) (fun e_ => (fun e_ => (Kd.R_ne HO_928002.out BK917.out (by decide)) e_) e_))); replace BK927 := Aside0.mk (blk_kept (bk BK927.out) hkp (fun hs_ => Or.elim hs_ (fun e_ => (fun e_ => (Kd.R_ne HO_928001.out BK927.out (by decide)) e_) e_) (fun e_ => (fun e_ => (Kd.R_ne HO_928002.out BK927.out (by decide)) e_) e_))); replace HO_928001 := Aside0.mk (Kd.R_reok rfl hy0 (fun k_ e_ => HO_928001.out.1 k_ e_)); replace HO_928002 := Aside0.mk (Kd.R_reok rfl hy1 (fun k_ e_ => HO_928002.out.1 k_ e_)); replace HB := Aside0.mk (hb); (try clear hb); (try clear hkp); (try clear hy0); (try clear hy1); obtain ⟨hcz127_0, hcz127_1, hcz127_2, hfz127_0, hfz127_1, hfz127_2⟩ := cz3 BK927.out) | ((with_reducible refine gate_callee (f := 41) rfl ?_); refine goesL_ (some 90) rfl rfl Try.func41 (by kernel_rfl) rfl #[.agg #[.int .i64 t918, .slice Ao41 t942.length co41, .slice Ao42 t943.length co42], .int .i64 1] rfl (by (try simp only [List.map_toArray, List.map_cons, List.map_nil]); first | done | (rw [show t942.length = t919.length from (Kd.R_reads' HO_928001.out).1.symm, show t943.length = t922.length from (Kd.R_reads' HO_928002.out).1.symm] <;> rfl) | rfl | (simp only [List.length_drop, List.length_take]; rfl)) ?_; (with_reducible refine (laws_heldColumn.calls kj74 t918 _ _ t942 _ _ t943 1 t944 _ ?side1 ?side2 ?side3 ?side4 A116.out).mono ?_); (case side1 => exact cb ((Kd.R_reads' HO_928001.out).2.2)); (case side2 => rw [show t942.length = t919.length from (Kd.R_reads' HO_928001.out).1.symm]; exact (Kd.R_reads' HO_928001.out).2.1); (case side3 => exact cb ((Kd.R_reads' HO_928002.out).2.2)); (case side4 => rw [show t943.length = t922.length from (Kd.R_reads' HO_928002.out).1.symm]; exact (Kd.R_reads' HO_928002.out).2.1); rintro e w128 ⟨rfl, hb⟩; refine ⟨_, rfl, ?_⟩; replace HO_910001 := Aside0.mk (Kd.R_below (rk HO_910001.out) hb); replace HO_910002 := Aside0.mk (Kd.R_below (rk HO_910002.out) hb); replace HO_918001 := Aside0.mk (Kd.R_below (rk HO_918001.out) hb); replace HO_918002 := Aside0.mk (Kd.R_below (rk HO_918002.out) hb); replace HO_928001 := Aside0.mk (Kd.R_below (rk HO_928001.out) hb); replace HO_928002 := Aside0.mk (Kd.R_below (rk HO_928002.out) hb); replace BK891 := Aside0.mk (bb BK891.out hb); replace BK909 := Aside0.mk (bb BK909.out hb); replace BK917 := Aside0.mk (bb BK917.out hb); replace BK927 := Aside0.mk (bb BK927.out hb); replace HB := Aside0.mk (below_step (bl HB.out) hb); (try clear hb); (try clear hb2); (try clear hk); (try clear hi); have hnb129 := NB891_909.out; have hnc129 := NB909_891.out; have hnb130 := NB891_917.out; have hnc130 := NB917_891.out; obtain ⟨hcz131_0, hcz131_1, hcz131_2, hfz131_0, hfz131_1, hfz131_2⟩ := cz3 BK891.out) | ((with_reducible refine gate_callee (f := 38) rfl ?_); refine goesL_ (some 98) rfl rfl Try.func38 (by kernel_rfl) rfl #[.agg #[.int .i64 a0_0, .slice A0_1 l0_1.length c0_1, .slice A0_2 l0_2.length c0_2]] rfl mapd ?_; (with_reducible refine (laws_toColumn.calls kj74 a0_0 _ _ l0_1 _ _ l0_2 t945 t946 t949 _ ?side1 ?side2 ?side3 ?side4 A119.out).mono ?_); (case side1 => exact cb (Kd.C_below HR0_1.out HB.out)); (case side2 => exact HC0_1.out); (case side3 => exact cb (Kd.C_below HR0_2.out HB.out)); (case side4 => exact HC0_2.out); rintro e w132 ⟨v947, v950, rfl, ho0, ho1, hb⟩; refine ⟨_, rfl, ?_⟩; have HO948 := Aside0.mk (Kd.R_lower (Kd.R_new' (Kd.R_new' (Kd.R_new' ho0 (Kd.R_lt (rk HO_910001.out))) (Kd.R_lt (rk HO_918001.out))) (Kd.R_lt (rk HO_928001.out))) (below_size (bl HB.out))); replace HO_910001 := Aside0.mk (Kd.R_elder' (rk HO_910001.out) (Kd.R_base ho0) hb); replace HO_918001 := Aside0.mk (Kd.R_elder' (rk HO_918001.out) (Kd.R_base ho0) hb); replace HO_928001 := Aside0.mk (Kd.R_elder' (rk HO_928001.out) (Kd.R_base ho0) hb); have HO951 := Aside0.mk (Kd.R_lower (Kd.R_new' (Kd.R_new' (Kd.R_new' ho1 (Kd.R_lt (rk HO_910002.out))) (Kd.R_lt (rk HO_918002.out))) (Kd.R_lt (rk HO_928002.out))) (below_size (bl HB.out))); replace HO_910002 := Aside0.mk (Kd.R_elder' (rk HO_910002.out) (Kd.R_base ho1) hb); replace HO_918002 := Aside0.mk (Kd.R_elder' (rk HO_918002.out) (Kd.R_base ho1) hb); replace HO_928002 := Aside0.mk (Kd.R_elder' (rk HO_928002.out) (Kd.R_base ho1) hb); replace BK891 := Aside0.mk (bb BK891.out hb); replace BK909 := Aside0.mk (bb BK909.out hb); replace BK917 := Aside0.mk (bb BK917.out hb); replace BK927 := Aside0.mk (bb BK927.out hb); replace HB := Aside0.mk (below_step (bl HB.out) hb); (try clear hb); (try clear hb2); (try clear hk); (try clear hi); (try clear ho0); (try clear ho1); obtain ⟨Ao133, co133, eo133⟩ := Kd.R_slice HO948.out; subst eo133; obtain ⟨Ao134, co134, eo134⟩ := Kd.R_slice HO951.out; subst eo134) | ((with_reducible refine gate_callee (f := 29) rfl ?_); refine goesL_ (some 101) rfl rfl Try.func29 (by kernel_rfl) rfl #[.agg #[.int .i64 t945, .slice Ao133 t946.length co133, .slice Ao134 t949.length co134], .int .i64 a1, .int .i64 a2] rfl mapd ?_; (with_reducible refine (impl_PutIn.calls kj74 t945 _ _ t946 _ _ t949 a1 a2 t952 t953 t956 t959 t960 _ ?side1 ?side2 ?side3 ?side4 A120.out).mono ?_); (case side1 => exact cb ((Kd.R_reads' HO948.out).2.2)); (case side2 => exact (Kd.R_reads' HO948.out).2.1); (case side3 => exact cb ((Kd.R_reads' HO951.out).2.2)); (case side4 => exact (Kd.R_reads' HO951.out).2.1); rintro e w135 ⟨v954, v957, rfl, ho0, ho1, hb⟩; refine ⟨_, rfl, ?_⟩; have HO955 := Aside0.mk (Kd.R_lower (Kd.R_new' (Kd.R_new' (Kd.R_new' (Kd.R_new' ho0 (Kd.R_lt (rk HO_910001.out))) (Kd.R_lt (rk HO_918001.out))) (Kd.R_lt (rk HO_928001.out))) (Kd.R_lt (rk HO948.out))) (below_size (bl HB.out))); replace HO_910001 := Aside0.mk (Kd.R_elder' (rk HO_910001.out) (Kd.R_base ho0) hb); replace HO_918001 := Aside0.mk (Kd.R_elder' (rk HO_918001.out) (Kd.R_base ho0) hb); replace HO_928001 := Aside0.mk (Kd.R_elder' (rk HO_928001.out) (Kd.R_base ho0) hb); replace HO948 := Aside0.mk (Kd.R_elder' (rk HO948.out) (Kd.R_base ho0) hb); have HO958 := Aside0.mk (Kd.R_lower (Kd.R_new' (Kd.R_new' (Kd.R_new' (Kd.R_new' ho1 (Kd.R_lt (rk HO_910002.out))) (Kd.R_lt (rk HO_918002.out))) (Kd.R_lt (rk HO_928002.out))) (Kd.R_lt (rk HO951.out))) (below_size (bl HB.out))); replace HO_910002 := Aside0.mk (Kd.R_elder' (rk HO_910002.out) (Kd.R_base ho1) hb); replace HO_918002 := Aside0.mk (Kd.R_elder' (rk HO_918002.out) (Kd.R_base ho1) hb); replace HO_928002 := Aside0.mk (Kd.R_elder' (rk HO_928002.out) (Kd.R_base ho1) hb); replace HO951 := Aside0.mk (Kd.R_elder' (rk HO951.out) (Kd.R_base ho1) hb); replace BK891 := Aside0.mk (bb BK891.out hb); replace BK909 := Aside0.mk (bb BK909.out hb); replace BK917 := Aside0.mk (bb BK917.out hb); replace BK927 := Aside0.mk (bb BK927.out hb); replace HB := Aside0.mk (below_step (bl HB.out) hb); (try clear hb); (try clear hb2); (try clear hk); (try clear hi); (try clear ho0); (try clear ho1)) | ((with_reducible refine gate_dst (N := 18) rfl ?_); refine bx (cs := #[.int .i64 0, .slice none 0 0, .slice none 0 0]) (t := 41) fun gb961 hg w136 hbox hb => ?_; replace HO_910001 := Aside0.mk (Kd.R_below (rk HO_910001.out) hb); replace HO_910002 := Aside0.mk (Kd.R_below (rk HO_910002.out) hb); replace HO_918001 := Aside0.mk (Kd.R_below (rk HO_918001.out) hb); replace HO_918002 := Aside0.mk (Kd.R_below (rk HO_918002.out) hb); replace HO_928001 := Aside0.mk (Kd.R_below (rk HO_928001.out) hb); replace HO_928002 := Aside0.mk (Kd.R_below (rk HO_928002.out) hb); replace HO948 := Aside0.mk (Kd.R_below (rk HO948.out) hb); replace HO951 := Aside0.mk (Kd.R_below (rk HO951.out) hb); replace HO955 := Aside0.mk (Kd.R_below (rk HO955.out) hb); replace HO958 := Aside0.mk (Kd.R_below (rk HO958.out) hb); have BK961 := Aside0.mk (hbox); have GW961 := Aside0.mk (gs HB.out hg); have GE961 := Aside0.mk (gs HB.out hg); replace HB := Aside0.mk (below_step (bl HB.out) hb); have NB891_961 := Aside0.mk ((nl BK891.out hg)); have NB961_891 := Aside0.mk ((ng BK891.out hg)); replace BK891 := Aside0.mk (bb BK891.out hb); have NB909_961 := Aside0.mk ((nl BK909.out hg)); have NB961_909 := Aside0.mk ((ng BK909.out hg)); replace BK909 := Aside0.mk (bb BK909.out hb); have NB917_961 := Aside0.mk ((nl BK917.out hg)); have NB961_917 := Aside0.mk ((ng BK917.out hg)); replace BK917 := Aside0.mk (bb BK917.out hb); have NB927_961 := Aside0.mk ((nl BK927.out hg)); have NB961_927 := Aside0.mk ((ng BK927.out hg)); replace BK927 := Aside0.mk (bb BK927.out hb); clear hb hbox hg; have hnb137 := NB961_891.out; have hnc137 := NB891_961.out; have hnb138 := NB961_909.out; have hnc138 := NB909_961.out; have hnb139 := NB961_917.out; have hnc139 := NB917_961.out; have hnb140 := NB961_927.out; have hnc140 := NB927_961.out; obtain ⟨hcz141_0, hcz141_1, hcz141_2, hfz141_0, hfz141_1, hfz141_2⟩ := cz3 BK961.out; obtain ⟨Ao142, co142, eo142⟩ := Kd.R_slice HO955.out; subst eo142; obtain ⟨Ao143, co143, eo143⟩ := Kd.R_slice HO958.out; subst eo143))
           (try simp only [Act.put, List.setIfInBounds_toArray, List.set_cons_zero, List.set_cons_succ])
           go_cut [118] (fun v118 wc => ∃ (kq : Nat) (x118_120 : Bool), v118 = .bool x118_120 ∧ Aside0 (laws_FnExactPutIn.j2 kq t941 x118_120 t918 t942 t943 = some r) ∧ Aside0 (kq ≤ kj74) ∧ Aside0 (Kd.R (Kd.int .i64) 3 wc w.heap.size (fun k_ => some k_ ≠ ((.slice Ao33 t938.length co33) : Value).ownBlock ∧ some k_ ≠ ((.slice Ao41 t919.length co41) : Value).ownBlock ∧ some k_ ≠ ((.slice Ao142 t953.length co142) : Value).ownBlock) (.slice Ao25 t901.length co25) t901) ∧ Aside0 (Kd.R k98 98 wc w.heap.size (fun k_ => some k_ ≠ ((.slice Ao34 t939.length co34) : Value).ownBlock ∧ some k_ ≠ ((.slice Ao42 t922.length co42) : Value).ownBlock ∧ some k_ ≠ ((.slice Ao143 t956.length co143) : Value).ownBlock) (.slice Ao26 t904.length co26) t904) ∧ Aside0 (Kd.R (Kd.int .i64) 3 wc w.heap.size (fun k_ => some k_ ≠ ((.slice Ao25 t901.length co25) : Value).ownBlock ∧ some k_ ≠ ((.slice Ao41 t919.length co41) : Value).ownBlock ∧ some k_ ≠ ((.slice Ao142 t953.length co142) : Value).ownBlock) (.slice Ao33 t938.length co33) t938) ∧ Aside0 (Kd.R k98 98 wc w.heap.size (fun k_ => some k_ ≠ ((.slice Ao26 t904.length co26) : Value).ownBlock ∧ some k_ ≠ ((.slice Ao42 t922.length co42) : Value).ownBlock ∧ some k_ ≠ ((.slice Ao143 t956.length co143) : Value).ownBlock) (.slice Ao34 t939.length co34) t939) ∧ Aside0 (Kd.R (Kd.int .i64) 3 wc w.heap.size (fun k_ => some k_ ≠ ((.slice Ao25 t901.length co25) : Value).ownBlock ∧ some k_ ≠ ((.slice Ao33 t938.length co33) : Value).ownBlock ∧ some k_ ≠ ((.slice Ao142 t953.length co142) : Value).ownBlock) (.slice Ao41 t919.length co41) t942) ∧ Aside0 (Kd.R k98 98 wc w.heap.size (fun k_ => some k_ ≠ ((.slice Ao26 t904.length co26) : Value).ownBlock ∧ some k_ ≠ ((.slice Ao34 t939.length co34) : Value).ownBlock ∧ some k_ ≠ ((.slice Ao143 t956.length co143) : Value).ownBlock) (.slice Ao42 t922.length co42) t943) ∧ Aside0 (Kd.R (Kd.int .i64) 3 wc w.heap.size (fun k_ => some k_ ≠ ((.slice Ao25 t901.length co25) : Value).ownBlock ∧ some k_ ≠ ((.slice Ao33 t938.length co33) : Value).ownBlock ∧ some k_ ≠ ((.slice Ao41 t919.length co41) : Value).ownBlock) (.slice Ao142 t953.length co142) t953) ∧ Aside0 (Kd.R k98 98 wc w.heap.size (fun k_ => some k_ ≠ ((.slice Ao26 t904.length co26) : Value).ownBlock ∧ some k_ ≠ ((.slice Ao34 t939.length co34) : Value).ownBlock ∧ some k_ ≠ ((.slice Ao42 t922.length co42) : Value).ownBlock) (.slice Ao143 t956.length co143) t956) ∧ Aside0 (wc.heap[gb891]? = some (.cells #[.int .i64 a0_0, (.slice A0_1 l0_1.length c0_1), (.slice A0_2 l0_2.length c0_2)] 58 (0, 0))) ∧ Aside0 (wc.heap[gb909]? = some (.cells #[.int .i64 t900, (.slice Ao25 t901.length co25), (.slice Ao26 t904.length co26)] 41 (0, 0))) ∧ Aside0 (wc.heap[gb917]? = some (.cells #[.int .i64 t910, (.slice Ao33 t938.length co33), (.slice Ao34 t939.length co34)] 41 (0, 0))) ∧ Aside0 (wc.heap[gb927]? = some (.cells #[.int .i64 t918, (.slice Ao41 t919.length co41), (.slice Ao42 t922.length co42)] 41 (0, 0))) ∧ Aside0 (wc.heap[gb961]? = some (.cells #[.int .i64 t952, (.slice Ao142 t953.length co142), (.slice Ao143 t956.length co143)] 41 (0, 0))) ∧ Aside0 (Below w.heap.size w wc))
           case first =>
            have H := HC121.out
            clear HC121
            replace H := Option.bind_eq_some_iff.mp H
            obtain ⟨t962, A1440, H⟩ := H
            try dsimp only at H
            have A144 := Aside0.mk A1440
            clear A1440
            by_cases c145 : t962 = true
            ·subst c145
             rw [if_pos rfl] at H
             by_cases c146 : t959 = t907
             ·rw [if_pos c146] at H
              have c146b0 : (t959 == t907) = true := beq_iff_eq.mpr c146
              have c146b1 : (t959 != t907) = false := bne_eq_false_iff_eq.mpr c146
              clear c146
              (first | rw [c146b0] | (simp only [i64_w, i32_w]; rw [c146b0]) | skip)
              have H' := Aside0.mk H
              clear H
              have hnb147 := NB961_891.out
              have hnc147 := NB891_961.out
              have hnb148 := NB961_909.out
              have hnc148 := NB909_961.out
              have hnb149 := NB961_917.out
              have hnc149 := NB917_961.out
              have hnb150 := NB961_927.out
              have hnc150 := NB927_961.out
              obtain ⟨hcz151_0, hcz151_1, hcz151_2, hfz151_0, hfz151_1, hfz151_2⟩ := cz3 BK961.out
              have hnb152 := NB909_891.out
              have hnc152 := NB891_909.out
              have hnb153 := NB909_917.out
              have hnc153 := NB917_909.out
              have hnb154 := NB909_927.out
              have hnc154 := NB927_909.out
              obtain ⟨hcz155_0, hcz155_1, hcz155_2, hfz155_0, hfz155_1, hfz155_2⟩ := cz3 BK909.out
              go_wp2_with (first | ((with_reducible refine gate_callee (f := 39) rfl ?_); refine goesL_ (some 107) rfl rfl Try.func39 (by kernel_rfl) rfl #[.agg #[.int .i64 t952, .slice Ao142 t953.length co142, .slice Ao143 t956.length co143], .agg #[.int .i64 t900, .slice Ao25 t901.length co25, .slice Ao26 t904.length co26]] rfl mapd ?_; (with_reducible refine (laws_eqColumn.calls kj74 t952 _ _ t953 _ _ t956 t900 _ _ t901 _ _ t904 true _ ?side1 ?side2 ?side3 ?side4 ?side5 ?side6 ?side7 ?side8 A144.out).mono ?_); (case side1 => refine (Kd.R_reads' (e := 3) (base := w.heap.size) (ok := fun k_ => ((((True ∧ some k_ ≠ (.slice Ao25 t901.length co25 : Value).ownBlock) ∧ some k_ ≠ (.slice Ao33 t938.length co33 : Value).ownBlock) ∧ some k_ ≠ (.slice Ao41 t919.length co41 : Value).ownBlock) ∧ some k_ ≠ (.slice Ao133 t946.length co133 : Value).ownBlock)) (n := t953.length) (c := co142) ?_).2.2; exact (by refine rk ?_; exact (Kd.R_mono (Kd.R_far (p := ⟨gb961, 2, none⟩) (Kd.R_far (p := ⟨gb961, 1, none⟩) (Kd.R_far (p := ⟨gb961, 0, none⟩) (Kd.R_types HO955.out BK961.out (by decide)) (fun _ hk => hk.2) (.int .i64 t952)) (fun _ hk => hk.2) (.slice Ao142 t953.length co142)) (fun _ hk => hk.2) (.slice Ao143 t956.length co143)) (fun _ h_ => h_.1)))); (case side2 => exact (Kd.R_reads' HO955.out).2.1); (case side3 => refine (Kd.R_reads' (e := 98) (base := w.heap.size) (ok := fun k_ => ((((True ∧ some k_ ≠ (.slice Ao26 t904.length co26 : Value).ownBlock) ∧ some k_ ≠ (.slice Ao34 t939.length co34 : Value).ownBlock) ∧ some k_ ≠ (.slice Ao42 t922.length co42 : Value).ownBlock) ∧ some k_ ≠ (.slice Ao134 t949.length co134 : Value).ownBlock)) (n := t956.length) (c := co143) ?_).2.2; exact (by refine rk ?_; exact (Kd.R_mono (Kd.R_far (p := ⟨gb961, 2, none⟩) (Kd.R_far (p := ⟨gb961, 1, none⟩) (Kd.R_far (p := ⟨gb961, 0, none⟩) (Kd.R_types HO958.out BK961.out (by decide)) (fun _ hk => hk.2) (.int .i64 t952)) (fun _ hk => hk.2) (.slice Ao142 t953.length co142)) (fun _ hk => hk.2) (.slice Ao143 t956.length co143)) (fun _ h_ => h_.1)))); (case side4 => exact (Kd.R_reads' HO958.out).2.1); (case side5 => refine (Kd.R_reads' (e := 3) (base := w.heap.size) (ok := fun k_ => (((some k_ ≠ (.slice Ao33 t938.length co33 : Value).ownBlock ∧ some k_ ≠ (.slice Ao41 t919.length co41 : Value).ownBlock) ∧ some k_ ≠ (.slice Ao133 t946.length co133 : Value).ownBlock) ∧ some k_ ≠ (.slice Ao142 t953.length co142 : Value).ownBlock)) (n := t901.length) (c := co25) ?_).2.2; exact (by refine rk ?_; exact (Kd.R_mono (Kd.R_far (p := ⟨gb961, 2, none⟩) (Kd.R_far (p := ⟨gb961, 1, none⟩) (Kd.R_far (p := ⟨gb961, 0, none⟩) (Kd.R_types HO_910001.out BK961.out (by decide)) (fun _ hk => hk.2) (.int .i64 t952)) (fun _ hk => hk.2) (.slice Ao142 t953.length co142)) (fun _ hk => hk.2) (.slice Ao143 t956.length co143)) (fun _ h_ => h_.1)))); (case side6 => exact (Kd.R_reads' HO_910001.out).2.1); (case side7 => refine (Kd.R_reads' (e := 98) (base := w.heap.size) (ok := fun k_ => (((some k_ ≠ (.slice Ao34 t939.length co34 : Value).ownBlock ∧ some k_ ≠ (.slice Ao42 t922.length co42 : Value).ownBlock) ∧ some k_ ≠ (.slice Ao134 t949.length co134 : Value).ownBlock) ∧ some k_ ≠ (.slice Ao143 t956.length co143 : Value).ownBlock)) (n := t904.length) (c := co26) ?_).2.2; exact (by refine rk ?_; exact (Kd.R_mono (Kd.R_far (p := ⟨gb961, 2, none⟩) (Kd.R_far (p := ⟨gb961, 1, none⟩) (Kd.R_far (p := ⟨gb961, 0, none⟩) (Kd.R_types HO_910002.out BK961.out (by decide)) (fun _ hk => hk.2) (.int .i64 t952)) (fun _ hk => hk.2) (.slice Ao142 t953.length co142)) (fun _ hk => hk.2) (.slice Ao143 t956.length co143)) (fun _ h_ => h_.1)))); (case side8 => exact (Kd.R_reads' HO_910002.out).2.1); rintro e w156 ⟨rfl, hb⟩; refine ⟨_, rfl, ?_⟩; replace HO_910001 := Aside0.mk (Kd.R_below (by refine rk ?_; exact (Kd.R_mono (Kd.R_far (p := ⟨gb961, 2, none⟩) (Kd.R_far (p := ⟨gb961, 1, none⟩) (Kd.R_far (p := ⟨gb961, 0, none⟩) (Kd.R_types HO_910001.out BK961.out (by decide)) (fun _ hk => hk.2) (.int .i64 t952)) (fun _ hk => hk.2) (.slice Ao142 t953.length co142)) (fun _ hk => hk.2) (.slice Ao143 t956.length co143)) (fun _ h_ => h_.1))) hb); replace HO_910002 := Aside0.mk (Kd.R_below (by refine rk ?_; exact (Kd.R_mono (Kd.R_far (p := ⟨gb961, 2, none⟩) (Kd.R_far (p := ⟨gb961, 1, none⟩) (Kd.R_far (p := ⟨gb961, 0, none⟩) (Kd.R_types HO_910002.out BK961.out (by decide)) (fun _ hk => hk.2) (.int .i64 t952)) (fun _ hk => hk.2) (.slice Ao142 t953.length co142)) (fun _ hk => hk.2) (.slice Ao143 t956.length co143)) (fun _ h_ => h_.1))) hb); replace HO_918001 := Aside0.mk (Kd.R_below (by refine rk ?_; exact (Kd.R_mono (Kd.R_far (p := ⟨gb961, 2, none⟩) (Kd.R_far (p := ⟨gb961, 1, none⟩) (Kd.R_far (p := ⟨gb961, 0, none⟩) (Kd.R_types HO_918001.out BK961.out (by decide)) (fun _ hk => hk.2) (.int .i64 t952)) (fun _ hk => hk.2) (.slice Ao142 t953.length co142)) (fun _ hk => hk.2) (.slice Ao143 t956.length co143)) (fun _ h_ => h_.1))) hb); replace HO_918002 := Aside0.mk (Kd.R_below (by refine rk ?_; exact (Kd.R_mono (Kd.R_far (p := ⟨gb961, 2, none⟩) (Kd.R_far (p := ⟨gb961, 1, none⟩) (Kd.R_far (p := ⟨gb961, 0, none⟩) (Kd.R_types HO_918002.out BK961.out (by decide)) (fun _ hk => hk.2) (.int .i64 t952)) (fun _ hk => hk.2) (.slice Ao142 t953.length co142)) (fun _ hk => hk.2) (.slice Ao143 t956.length co143)) (fun _ h_ => h_.1))) hb); replace HO_928001 := Aside0.mk (Kd.R_below (by refine rk ?_; exact (Kd.R_mono (Kd.R_far (p := ⟨gb961, 2, none⟩) (Kd.R_far (p := ⟨gb961, 1, none⟩) (Kd.R_far (p := ⟨gb961, 0, none⟩) (Kd.R_types HO_928001.out BK961.out (by decide)) (fun _ hk => hk.2) (.int .i64 t952)) (fun _ hk => hk.2) (.slice Ao142 t953.length co142)) (fun _ hk => hk.2) (.slice Ao143 t956.length co143)) (fun _ h_ => h_.1))) hb); replace HO_928002 := Aside0.mk (Kd.R_below (by refine rk ?_; exact (Kd.R_mono (Kd.R_far (p := ⟨gb961, 2, none⟩) (Kd.R_far (p := ⟨gb961, 1, none⟩) (Kd.R_far (p := ⟨gb961, 0, none⟩) (Kd.R_types HO_928002.out BK961.out (by decide)) (fun _ hk => hk.2) (.int .i64 t952)) (fun _ hk => hk.2) (.slice Ao142 t953.length co142)) (fun _ hk => hk.2) (.slice Ao143 t956.length co143)) (fun _ h_ => h_.1))) hb); replace HO948 := Aside0.mk (Kd.R_below (by refine rk ?_; exact (Kd.R_mono (Kd.R_far (p := ⟨gb961, 2, none⟩) (Kd.R_far (p := ⟨gb961, 1, none⟩) (Kd.R_far (p := ⟨gb961, 0, none⟩) (Kd.R_types HO948.out BK961.out (by decide)) (fun _ hk => hk.2) (.int .i64 t952)) (fun _ hk => hk.2) (.slice Ao142 t953.length co142)) (fun _ hk => hk.2) (.slice Ao143 t956.length co143)) (fun _ h_ => h_.1))) hb); replace HO951 := Aside0.mk (Kd.R_below (by refine rk ?_; exact (Kd.R_mono (Kd.R_far (p := ⟨gb961, 2, none⟩) (Kd.R_far (p := ⟨gb961, 1, none⟩) (Kd.R_far (p := ⟨gb961, 0, none⟩) (Kd.R_types HO951.out BK961.out (by decide)) (fun _ hk => hk.2) (.int .i64 t952)) (fun _ hk => hk.2) (.slice Ao142 t953.length co142)) (fun _ hk => hk.2) (.slice Ao143 t956.length co143)) (fun _ h_ => h_.1))) hb); replace HO955 := Aside0.mk (Kd.R_below (by refine rk ?_; exact (Kd.R_mono (Kd.R_far (p := ⟨gb961, 2, none⟩) (Kd.R_far (p := ⟨gb961, 1, none⟩) (Kd.R_far (p := ⟨gb961, 0, none⟩) (Kd.R_types HO955.out BK961.out (by decide)) (fun _ hk => hk.2) (.int .i64 t952)) (fun _ hk => hk.2) (.slice Ao142 t953.length co142)) (fun _ hk => hk.2) (.slice Ao143 t956.length co143)) (fun _ h_ => h_.1))) hb); replace HO958 := Aside0.mk (Kd.R_below (by refine rk ?_; exact (Kd.R_mono (Kd.R_far (p := ⟨gb961, 2, none⟩) (Kd.R_far (p := ⟨gb961, 1, none⟩) (Kd.R_far (p := ⟨gb961, 0, none⟩) (Kd.R_types HO958.out BK961.out (by decide)) (fun _ hk => hk.2) (.int .i64 t952)) (fun _ hk => hk.2) (.slice Ao142 t953.length co142)) (fun _ hk => hk.2) (.slice Ao143 t956.length co143)) (fun _ h_ => h_.1))) hb); replace BK891 := Aside0.mk (blk_below (g := gb891) (o := .cells #[.int .i64 a0_0, .slice A0_1 l0_1.length c0_1, .slice A0_2 l0_2.length c0_2] 58 (0, 0)) (bf BK891.out) hb); replace BK909 := Aside0.mk (blk_below (g := gb909) (o := .cells #[.int .i64 t900, .slice Ao25 t901.length co25, .slice Ao26 t904.length co26] 41 (0, 0)) (bf BK909.out) hb); replace BK917 := Aside0.mk (blk_below (g := gb917) (o := .cells #[.int .i64 t910, .slice Ao33 t938.length co33, .slice Ao34 t939.length co34] 41 (0, 0)) (bf BK917.out) hb); replace BK927 := Aside0.mk (blk_below (g := gb927) (o := .cells #[.int .i64 t918, .slice Ao41 t919.length co41, .slice Ao42 t922.length co42] 41 (0, 0)) (bf BK927.out) hb); replace BK961 := Aside0.mk (blk_below (g := gb961) (o := .cells #[.int .i64 t952, .slice Ao142 t953.length co142, .slice Ao143 t956.length co143] 41 (0, 0)) (by refine bk ?_; refine blk_put (cs := #[.int .i64 t952, .slice Ao142 t953.length co142, .slice none 0 0]) ?_ 2 _ rfl; refine bk ?_; refine blk_put (cs := #[.int .i64 t952, .slice none 0 0, .slice none 0 0]) ?_ 1 _ rfl; refine bk ?_; refine blk_put (cs := #[.int .i64 0, .slice none 0 0, .slice none 0 0]) ?_ 0 _ rfl; refine bk ?_; exact BK961.out) hb); replace HB := Aside0.mk (below_step (bl HB.out) hb); (try clear hb); (try clear hb2); (try clear hk); (try clear hi)))
              go_meet
              case rel => exact ⟨_, ((t960 != t908)), (by first | rfl | (simp; done) | (simp [*]; done)), H', ⟨by have := HJ12.out; have := HJ74.out; first | omega | exact Nat.le_refl _⟩, ⟨by (try simp only [hl918001_74]); (try simp only [hl918002_74]); refine rk ?_; exact Kd.R_mono HO_910001.out (fun _ hk => ⟨hk.1.1.1, ⟨hk.1.1.2, hk.2⟩⟩)⟩, ⟨by (try simp only [hl918001_74]); (try simp only [hl918002_74]); refine rk ?_; exact Kd.R_mono HO_910002.out (fun _ hk => ⟨hk.1.1.1, ⟨hk.1.1.2, hk.2⟩⟩)⟩, ⟨by (try simp only [hl918001_74]); (try simp only [hl918002_74]); refine rk ?_; exact Kd.R_mono HO_918001.out (fun _ hk => ⟨hk.1.1.1, ⟨hk.1.1.2, hk.2⟩⟩)⟩, ⟨by (try simp only [hl918001_74]); (try simp only [hl918002_74]); refine rk ?_; exact Kd.R_mono HO_918002.out (fun _ hk => ⟨hk.1.1.1, ⟨hk.1.1.2, hk.2⟩⟩)⟩, ⟨by (try simp only [hl918001_74]); (try simp only [hl918002_74]); refine rk ?_; exact Kd.R_mono HO_928001.out (fun _ hk => ⟨hk.1.1.1, ⟨hk.1.1.2, hk.2⟩⟩)⟩, ⟨by (try simp only [hl918001_74]); (try simp only [hl918002_74]); refine rk ?_; exact Kd.R_mono HO_928002.out (fun _ hk => ⟨hk.1.1.1, ⟨hk.1.1.2, hk.2⟩⟩)⟩, ⟨by (try simp only [hl918001_74]); (try simp only [hl918002_74]); refine rk ?_; exact Kd.R_mono HO955.out (fun _ hk => ⟨hk.1.1.1.2, ⟨hk.1.1.2, hk.1.2⟩⟩)⟩, ⟨by (try simp only [hl918001_74]); (try simp only [hl918002_74]); refine rk ?_; exact Kd.R_mono HO958.out (fun _ hk => ⟨hk.1.1.1.2, ⟨hk.1.1.2, hk.1.2⟩⟩)⟩, ⟨by (try simp only [hl918001_74]); (try simp only [hl918002_74]); refine bk ?_; exact BK891.out⟩, ⟨by (try simp only [hl918001_74]); (try simp only [hl918002_74]); refine bk ?_; exact BK909.out⟩, ⟨by (try simp only [hl918001_74]); (try simp only [hl918002_74]); refine bk ?_; exact BK917.out⟩, ⟨by (try simp only [hl918001_74]); (try simp only [hl918002_74]); refine bk ?_; exact BK927.out⟩, ⟨by (try simp only [hl918001_74]); (try simp only [hl918002_74]); refine bk ?_; exact BK961.out⟩, ⟨bl HB.out⟩⟩
             ·rw [if_neg c146] at H
              have c146b0 : (t959 == t907) = false := beq_eq_false_iff_ne.mpr c146
              have c146b1 : (t959 != t907) = true := bne_iff_ne.mpr c146
              (first | rw [c146b0] | (simp only [i64_w, i32_w]; rw [c146b0]) | skip)
              have H' := Aside0.mk H
              clear H
              have hnb157 := NB961_891.out
              have hnc157 := NB891_961.out
              have hnb158 := NB961_909.out
              have hnc158 := NB909_961.out
              have hnb159 := NB961_917.out
              have hnc159 := NB917_961.out
              have hnb160 := NB961_927.out
              have hnc160 := NB927_961.out
              obtain ⟨hcz161_0, hcz161_1, hcz161_2, hfz161_0, hfz161_1, hfz161_2⟩ := cz3 BK961.out
              have hnb162 := NB909_891.out
              have hnc162 := NB891_909.out
              have hnb163 := NB909_917.out
              have hnc163 := NB917_909.out
              have hnb164 := NB909_927.out
              have hnc164 := NB927_909.out
              obtain ⟨hcz165_0, hcz165_1, hcz165_2, hfz165_0, hfz165_1, hfz165_2⟩ := cz3 BK909.out
              go_wp2_with (first | ((with_reducible refine gate_callee (f := 39) rfl ?_); refine goesL_ (some 107) rfl rfl Try.func39 (by kernel_rfl) rfl #[.agg #[.int .i64 t952, .slice Ao142 t953.length co142, .slice Ao143 t956.length co143], .agg #[.int .i64 t900, .slice Ao25 t901.length co25, .slice Ao26 t904.length co26]] rfl mapd ?_; (with_reducible refine (laws_eqColumn.calls kj74 t952 _ _ t953 _ _ t956 t900 _ _ t901 _ _ t904 true _ ?side1 ?side2 ?side3 ?side4 ?side5 ?side6 ?side7 ?side8 A144.out).mono ?_); (case side1 => refine (Kd.R_reads' (e := 3) (base := w.heap.size) (ok := fun k_ => ((((True ∧ some k_ ≠ (.slice Ao25 t901.length co25 : Value).ownBlock) ∧ some k_ ≠ (.slice Ao33 t938.length co33 : Value).ownBlock) ∧ some k_ ≠ (.slice Ao41 t919.length co41 : Value).ownBlock) ∧ some k_ ≠ (.slice Ao133 t946.length co133 : Value).ownBlock)) (n := t953.length) (c := co142) ?_).2.2; exact (by refine rk ?_; exact (Kd.R_mono (Kd.R_far (p := ⟨gb961, 2, none⟩) (Kd.R_far (p := ⟨gb961, 1, none⟩) (Kd.R_far (p := ⟨gb961, 0, none⟩) (Kd.R_types HO955.out BK961.out (by decide)) (fun _ hk => hk.2) (.int .i64 t952)) (fun _ hk => hk.2) (.slice Ao142 t953.length co142)) (fun _ hk => hk.2) (.slice Ao143 t956.length co143)) (fun _ h_ => h_.1)))); (case side2 => exact (Kd.R_reads' HO955.out).2.1); (case side3 => refine (Kd.R_reads' (e := 98) (base := w.heap.size) (ok := fun k_ => ((((True ∧ some k_ ≠ (.slice Ao26 t904.length co26 : Value).ownBlock) ∧ some k_ ≠ (.slice Ao34 t939.length co34 : Value).ownBlock) ∧ some k_ ≠ (.slice Ao42 t922.length co42 : Value).ownBlock) ∧ some k_ ≠ (.slice Ao134 t949.length co134 : Value).ownBlock)) (n := t956.length) (c := co143) ?_).2.2; exact (by refine rk ?_; exact (Kd.R_mono (Kd.R_far (p := ⟨gb961, 2, none⟩) (Kd.R_far (p := ⟨gb961, 1, none⟩) (Kd.R_far (p := ⟨gb961, 0, none⟩) (Kd.R_types HO958.out BK961.out (by decide)) (fun _ hk => hk.2) (.int .i64 t952)) (fun _ hk => hk.2) (.slice Ao142 t953.length co142)) (fun _ hk => hk.2) (.slice Ao143 t956.length co143)) (fun _ h_ => h_.1)))); (case side4 => exact (Kd.R_reads' HO958.out).2.1); (case side5 => refine (Kd.R_reads' (e := 3) (base := w.heap.size) (ok := fun k_ => (((some k_ ≠ (.slice Ao33 t938.length co33 : Value).ownBlock ∧ some k_ ≠ (.slice Ao41 t919.length co41 : Value).ownBlock) ∧ some k_ ≠ (.slice Ao133 t946.length co133 : Value).ownBlock) ∧ some k_ ≠ (.slice Ao142 t953.length co142 : Value).ownBlock)) (n := t901.length) (c := co25) ?_).2.2; exact (by refine rk ?_; exact (Kd.R_mono (Kd.R_far (p := ⟨gb961, 2, none⟩) (Kd.R_far (p := ⟨gb961, 1, none⟩) (Kd.R_far (p := ⟨gb961, 0, none⟩) (Kd.R_types HO_910001.out BK961.out (by decide)) (fun _ hk => hk.2) (.int .i64 t952)) (fun _ hk => hk.2) (.slice Ao142 t953.length co142)) (fun _ hk => hk.2) (.slice Ao143 t956.length co143)) (fun _ h_ => h_.1)))); (case side6 => exact (Kd.R_reads' HO_910001.out).2.1); (case side7 => refine (Kd.R_reads' (e := 98) (base := w.heap.size) (ok := fun k_ => (((some k_ ≠ (.slice Ao34 t939.length co34 : Value).ownBlock ∧ some k_ ≠ (.slice Ao42 t922.length co42 : Value).ownBlock) ∧ some k_ ≠ (.slice Ao134 t949.length co134 : Value).ownBlock) ∧ some k_ ≠ (.slice Ao143 t956.length co143 : Value).ownBlock)) (n := t904.length) (c := co26) ?_).2.2; exact (by refine rk ?_; exact (Kd.R_mono (Kd.R_far (p := ⟨gb961, 2, none⟩) (Kd.R_far (p := ⟨gb961, 1, none⟩) (Kd.R_far (p := ⟨gb961, 0, none⟩) (Kd.R_types HO_910002.out BK961.out (by decide)) (fun _ hk => hk.2) (.int .i64 t952)) (fun _ hk => hk.2) (.slice Ao142 t953.length co142)) (fun _ hk => hk.2) (.slice Ao143 t956.length co143)) (fun _ h_ => h_.1)))); (case side8 => exact (Kd.R_reads' HO_910002.out).2.1); rintro e w166 ⟨rfl, hb⟩; refine ⟨_, rfl, ?_⟩; replace HO_910001 := Aside0.mk (Kd.R_below (by refine rk ?_; exact (Kd.R_mono (Kd.R_far (p := ⟨gb961, 2, none⟩) (Kd.R_far (p := ⟨gb961, 1, none⟩) (Kd.R_far (p := ⟨gb961, 0, none⟩) (Kd.R_types HO_910001.out BK961.out (by decide)) (fun _ hk => hk.2) (.int .i64 t952)) (fun _ hk => hk.2) (.slice Ao142 t953.length co142)) (fun _ hk => hk.2) (.slice Ao143 t956.length co143)) (fun _ h_ => h_.1))) hb); replace HO_910002 := Aside0.mk (Kd.R_below (by refine rk ?_; exact (Kd.R_mono (Kd.R_far (p := ⟨gb961, 2, none⟩) (Kd.R_far (p := ⟨gb961, 1, none⟩) (Kd.R_far (p := ⟨gb961, 0, none⟩) (Kd.R_types HO_910002.out BK961.out (by decide)) (fun _ hk => hk.2) (.int .i64 t952)) (fun _ hk => hk.2) (.slice Ao142 t953.length co142)) (fun _ hk => hk.2) (.slice Ao143 t956.length co143)) (fun _ h_ => h_.1))) hb); replace HO_918001 := Aside0.mk (Kd.R_below (by refine rk ?_; exact (Kd.R_mono (Kd.R_far (p := ⟨gb961, 2, none⟩) (Kd.R_far (p := ⟨gb961, 1, none⟩) (Kd.R_far (p := ⟨gb961, 0, none⟩) (Kd.R_types HO_918001.out BK961.out (by decide)) (fun _ hk => hk.2) (.int .i64 t952)) (fun _ hk => hk.2) (.slice Ao142 t953.length co142)) (fun _ hk => hk.2) (.slice Ao143 t956.length co143)) (fun _ h_ => h_.1))) hb); replace HO_918002 := Aside0.mk (Kd.R_below (by refine rk ?_; exact (Kd.R_mono (Kd.R_far (p := ⟨gb961, 2, none⟩) (Kd.R_far (p := ⟨gb961, 1, none⟩) (Kd.R_far (p := ⟨gb961, 0, none⟩) (Kd.R_types HO_918002.out BK961.out (by decide)) (fun _ hk => hk.2) (.int .i64 t952)) (fun _ hk => hk.2) (.slice Ao142 t953.length co142)) (fun _ hk => hk.2) (.slice Ao143 t956.length co143)) (fun _ h_ => h_.1))) hb); replace HO_928001 := Aside0.mk (Kd.R_below (by refine rk ?_; exact (Kd.R_mono (Kd.R_far (p := ⟨gb961, 2, none⟩) (Kd.R_far (p := ⟨gb961, 1, none⟩) (Kd.R_far (p := ⟨gb961, 0, none⟩) (Kd.R_types HO_928001.out BK961.out (by decide)) (fun _ hk => hk.2) (.int .i64 t952)) (fun _ hk => hk.2) (.slice Ao142 t953.length co142)) (fun _ hk => hk.2) (.slice Ao143 t956.length co143)) (fun _ h_ => h_.1))) hb); replace HO_928002 := Aside0.mk (Kd.R_below (by refine rk ?_; exact (Kd.R_mono (Kd.R_far (p := ⟨gb961, 2, none⟩) (Kd.R_far (p := ⟨gb961, 1, none⟩) (Kd.R_far (p := ⟨gb961, 0, none⟩) (Kd.R_types HO_928002.out BK961.out (by decide)) (fun _ hk => hk.2) (.int .i64 t952)) (fun _ hk => hk.2) (.slice Ao142 t953.length co142)) (fun _ hk => hk.2) (.slice Ao143 t956.length co143)) (fun _ h_ => h_.1))) hb); replace HO948 := Aside0.mk (Kd.R_below (by refine rk ?_; exact (Kd.R_mono (Kd.R_far (p := ⟨gb961, 2, none⟩) (Kd.R_far (p := ⟨gb961, 1, none⟩) (Kd.R_far (p := ⟨gb961, 0, none⟩) (Kd.R_types HO948.out BK961.out (by decide)) (fun _ hk => hk.2) (.int .i64 t952)) (fun _ hk => hk.2) (.slice Ao142 t953.length co142)) (fun _ hk => hk.2) (.slice Ao143 t956.length co143)) (fun _ h_ => h_.1))) hb); replace HO951 := Aside0.mk (Kd.R_below (by refine rk ?_; exact (Kd.R_mono (Kd.R_far (p := ⟨gb961, 2, none⟩) (Kd.R_far (p := ⟨gb961, 1, none⟩) (Kd.R_far (p := ⟨gb961, 0, none⟩) (Kd.R_types HO951.out BK961.out (by decide)) (fun _ hk => hk.2) (.int .i64 t952)) (fun _ hk => hk.2) (.slice Ao142 t953.length co142)) (fun _ hk => hk.2) (.slice Ao143 t956.length co143)) (fun _ h_ => h_.1))) hb); replace HO955 := Aside0.mk (Kd.R_below (by refine rk ?_; exact (Kd.R_mono (Kd.R_far (p := ⟨gb961, 2, none⟩) (Kd.R_far (p := ⟨gb961, 1, none⟩) (Kd.R_far (p := ⟨gb961, 0, none⟩) (Kd.R_types HO955.out BK961.out (by decide)) (fun _ hk => hk.2) (.int .i64 t952)) (fun _ hk => hk.2) (.slice Ao142 t953.length co142)) (fun _ hk => hk.2) (.slice Ao143 t956.length co143)) (fun _ h_ => h_.1))) hb); replace HO958 := Aside0.mk (Kd.R_below (by refine rk ?_; exact (Kd.R_mono (Kd.R_far (p := ⟨gb961, 2, none⟩) (Kd.R_far (p := ⟨gb961, 1, none⟩) (Kd.R_far (p := ⟨gb961, 0, none⟩) (Kd.R_types HO958.out BK961.out (by decide)) (fun _ hk => hk.2) (.int .i64 t952)) (fun _ hk => hk.2) (.slice Ao142 t953.length co142)) (fun _ hk => hk.2) (.slice Ao143 t956.length co143)) (fun _ h_ => h_.1))) hb); replace BK891 := Aside0.mk (blk_below (g := gb891) (o := .cells #[.int .i64 a0_0, .slice A0_1 l0_1.length c0_1, .slice A0_2 l0_2.length c0_2] 58 (0, 0)) (bf BK891.out) hb); replace BK909 := Aside0.mk (blk_below (g := gb909) (o := .cells #[.int .i64 t900, .slice Ao25 t901.length co25, .slice Ao26 t904.length co26] 41 (0, 0)) (bf BK909.out) hb); replace BK917 := Aside0.mk (blk_below (g := gb917) (o := .cells #[.int .i64 t910, .slice Ao33 t938.length co33, .slice Ao34 t939.length co34] 41 (0, 0)) (bf BK917.out) hb); replace BK927 := Aside0.mk (blk_below (g := gb927) (o := .cells #[.int .i64 t918, .slice Ao41 t919.length co41, .slice Ao42 t922.length co42] 41 (0, 0)) (bf BK927.out) hb); replace BK961 := Aside0.mk (blk_below (g := gb961) (o := .cells #[.int .i64 t952, .slice Ao142 t953.length co142, .slice Ao143 t956.length co143] 41 (0, 0)) (by refine bk ?_; refine blk_put (cs := #[.int .i64 t952, .slice Ao142 t953.length co142, .slice none 0 0]) ?_ 2 _ rfl; refine bk ?_; refine blk_put (cs := #[.int .i64 t952, .slice none 0 0, .slice none 0 0]) ?_ 1 _ rfl; refine bk ?_; refine blk_put (cs := #[.int .i64 0, .slice none 0 0, .slice none 0 0]) ?_ 0 _ rfl; refine bk ?_; exact BK961.out) hb); replace HB := Aside0.mk (below_step (bl HB.out) hb); (try clear hb); (try clear hb2); (try clear hk); (try clear hi)))
              go_meet
              case rel => exact ⟨_, (true), (by first | rfl | (simp; done) | (simp [*]; done)), H', ⟨by have := HJ12.out; have := HJ74.out; first | omega | exact Nat.le_refl _⟩, ⟨by (try simp only [hl918001_74]); (try simp only [hl918002_74]); refine rk ?_; exact Kd.R_mono HO_910001.out (fun _ hk => ⟨hk.1.1.1, ⟨hk.1.1.2, hk.2⟩⟩)⟩, ⟨by (try simp only [hl918001_74]); (try simp only [hl918002_74]); refine rk ?_; exact Kd.R_mono HO_910002.out (fun _ hk => ⟨hk.1.1.1, ⟨hk.1.1.2, hk.2⟩⟩)⟩, ⟨by (try simp only [hl918001_74]); (try simp only [hl918002_74]); refine rk ?_; exact Kd.R_mono HO_918001.out (fun _ hk => ⟨hk.1.1.1, ⟨hk.1.1.2, hk.2⟩⟩)⟩, ⟨by (try simp only [hl918001_74]); (try simp only [hl918002_74]); refine rk ?_; exact Kd.R_mono HO_918002.out (fun _ hk => ⟨hk.1.1.1, ⟨hk.1.1.2, hk.2⟩⟩)⟩, ⟨by (try simp only [hl918001_74]); (try simp only [hl918002_74]); refine rk ?_; exact Kd.R_mono HO_928001.out (fun _ hk => ⟨hk.1.1.1, ⟨hk.1.1.2, hk.2⟩⟩)⟩, ⟨by (try simp only [hl918001_74]); (try simp only [hl918002_74]); refine rk ?_; exact Kd.R_mono HO_928002.out (fun _ hk => ⟨hk.1.1.1, ⟨hk.1.1.2, hk.2⟩⟩)⟩, ⟨by (try simp only [hl918001_74]); (try simp only [hl918002_74]); refine rk ?_; exact Kd.R_mono HO955.out (fun _ hk => ⟨hk.1.1.1.2, ⟨hk.1.1.2, hk.1.2⟩⟩)⟩, ⟨by (try simp only [hl918001_74]); (try simp only [hl918002_74]); refine rk ?_; exact Kd.R_mono HO958.out (fun _ hk => ⟨hk.1.1.1.2, ⟨hk.1.1.2, hk.1.2⟩⟩)⟩, ⟨by (try simp only [hl918001_74]); (try simp only [hl918002_74]); refine bk ?_; exact BK891.out⟩, ⟨by (try simp only [hl918001_74]); (try simp only [hl918002_74]); refine bk ?_; exact BK909.out⟩, ⟨by (try simp only [hl918001_74]); (try simp only [hl918002_74]); refine bk ?_; exact BK917.out⟩, ⟨by (try simp only [hl918001_74]); (try simp only [hl918002_74]); refine bk ?_; exact BK927.out⟩, ⟨by (try simp only [hl918001_74]); (try simp only [hl918002_74]); refine bk ?_; exact BK961.out⟩, ⟨bl HB.out⟩⟩
            ·replace c145 := Bool.eq_false_iff.mpr c145
             subst c145
             rw [if_neg (show ¬ (false = true) by decide)] at H
             have H' := Aside0.mk H
             clear H
             have hnb167 := NB961_891.out
             have hnc167 := NB891_961.out
             have hnb168 := NB961_909.out
             have hnc168 := NB909_961.out
             have hnb169 := NB961_917.out
             have hnc169 := NB917_961.out
             have hnb170 := NB961_927.out
             have hnc170 := NB927_961.out
             obtain ⟨hcz171_0, hcz171_1, hcz171_2, hfz171_0, hfz171_1, hfz171_2⟩ := cz3 BK961.out
             have hnb172 := NB909_891.out
             have hnc172 := NB891_909.out
             have hnb173 := NB909_917.out
             have hnc173 := NB917_909.out
             have hnb174 := NB909_927.out
             have hnc174 := NB927_909.out
             obtain ⟨hcz175_0, hcz175_1, hcz175_2, hfz175_0, hfz175_1, hfz175_2⟩ := cz3 BK909.out
             go_wp2_with (first | ((with_reducible refine gate_callee (f := 39) rfl ?_); refine goesL_ (some 107) rfl rfl Try.func39 (by kernel_rfl) rfl #[.agg #[.int .i64 t952, .slice Ao142 t953.length co142, .slice Ao143 t956.length co143], .agg #[.int .i64 t900, .slice Ao25 t901.length co25, .slice Ao26 t904.length co26]] rfl mapd ?_; (with_reducible refine (laws_eqColumn.calls kj74 t952 _ _ t953 _ _ t956 t900 _ _ t901 _ _ t904 false _ ?side1 ?side2 ?side3 ?side4 ?side5 ?side6 ?side7 ?side8 A144.out).mono ?_); (case side1 => refine (Kd.R_reads' (e := 3) (base := w.heap.size) (ok := fun k_ => ((((True ∧ some k_ ≠ (.slice Ao25 t901.length co25 : Value).ownBlock) ∧ some k_ ≠ (.slice Ao33 t938.length co33 : Value).ownBlock) ∧ some k_ ≠ (.slice Ao41 t919.length co41 : Value).ownBlock) ∧ some k_ ≠ (.slice Ao133 t946.length co133 : Value).ownBlock)) (n := t953.length) (c := co142) ?_).2.2; exact (by refine rk ?_; exact (Kd.R_mono (Kd.R_far (p := ⟨gb961, 2, none⟩) (Kd.R_far (p := ⟨gb961, 1, none⟩) (Kd.R_far (p := ⟨gb961, 0, none⟩) (Kd.R_types HO955.out BK961.out (by decide)) (fun _ hk => hk.2) (.int .i64 t952)) (fun _ hk => hk.2) (.slice Ao142 t953.length co142)) (fun _ hk => hk.2) (.slice Ao143 t956.length co143)) (fun _ h_ => h_.1)))); (case side2 => exact (Kd.R_reads' HO955.out).2.1); (case side3 => refine (Kd.R_reads' (e := 98) (base := w.heap.size) (ok := fun k_ => ((((True ∧ some k_ ≠ (.slice Ao26 t904.length co26 : Value).ownBlock) ∧ some k_ ≠ (.slice Ao34 t939.length co34 : Value).ownBlock) ∧ some k_ ≠ (.slice Ao42 t922.length co42 : Value).ownBlock) ∧ some k_ ≠ (.slice Ao134 t949.length co134 : Value).ownBlock)) (n := t956.length) (c := co143) ?_).2.2; exact (by refine rk ?_; exact (Kd.R_mono (Kd.R_far (p := ⟨gb961, 2, none⟩) (Kd.R_far (p := ⟨gb961, 1, none⟩) (Kd.R_far (p := ⟨gb961, 0, none⟩) (Kd.R_types HO958.out BK961.out (by decide)) (fun _ hk => hk.2) (.int .i64 t952)) (fun _ hk => hk.2) (.slice Ao142 t953.length co142)) (fun _ hk => hk.2) (.slice Ao143 t956.length co143)) (fun _ h_ => h_.1)))); (case side4 => exact (Kd.R_reads' HO958.out).2.1); (case side5 => refine (Kd.R_reads' (e := 3) (base := w.heap.size) (ok := fun k_ => (((some k_ ≠ (.slice Ao33 t938.length co33 : Value).ownBlock ∧ some k_ ≠ (.slice Ao41 t919.length co41 : Value).ownBlock) ∧ some k_ ≠ (.slice Ao133 t946.length co133 : Value).ownBlock) ∧ some k_ ≠ (.slice Ao142 t953.length co142 : Value).ownBlock)) (n := t901.length) (c := co25) ?_).2.2; exact (by refine rk ?_; exact (Kd.R_mono (Kd.R_far (p := ⟨gb961, 2, none⟩) (Kd.R_far (p := ⟨gb961, 1, none⟩) (Kd.R_far (p := ⟨gb961, 0, none⟩) (Kd.R_types HO_910001.out BK961.out (by decide)) (fun _ hk => hk.2) (.int .i64 t952)) (fun _ hk => hk.2) (.slice Ao142 t953.length co142)) (fun _ hk => hk.2) (.slice Ao143 t956.length co143)) (fun _ h_ => h_.1)))); (case side6 => exact (Kd.R_reads' HO_910001.out).2.1); (case side7 => refine (Kd.R_reads' (e := 98) (base := w.heap.size) (ok := fun k_ => (((some k_ ≠ (.slice Ao34 t939.length co34 : Value).ownBlock ∧ some k_ ≠ (.slice Ao42 t922.length co42 : Value).ownBlock) ∧ some k_ ≠ (.slice Ao134 t949.length co134 : Value).ownBlock) ∧ some k_ ≠ (.slice Ao143 t956.length co143 : Value).ownBlock)) (n := t904.length) (c := co26) ?_).2.2; exact (by refine rk ?_; exact (Kd.R_mono (Kd.R_far (p := ⟨gb961, 2, none⟩) (Kd.R_far (p := ⟨gb961, 1, none⟩) (Kd.R_far (p := ⟨gb961, 0, none⟩) (Kd.R_types HO_910002.out BK961.out (by decide)) (fun _ hk => hk.2) (.int .i64 t952)) (fun _ hk => hk.2) (.slice Ao142 t953.length co142)) (fun _ hk => hk.2) (.slice Ao143 t956.length co143)) (fun _ h_ => h_.1)))); (case side8 => exact (Kd.R_reads' HO_910002.out).2.1); rintro e w176 ⟨rfl, hb⟩; refine ⟨_, rfl, ?_⟩; replace HO_910001 := Aside0.mk (Kd.R_below (by refine rk ?_; exact (Kd.R_mono (Kd.R_far (p := ⟨gb961, 2, none⟩) (Kd.R_far (p := ⟨gb961, 1, none⟩) (Kd.R_far (p := ⟨gb961, 0, none⟩) (Kd.R_types HO_910001.out BK961.out (by decide)) (fun _ hk => hk.2) (.int .i64 t952)) (fun _ hk => hk.2) (.slice Ao142 t953.length co142)) (fun _ hk => hk.2) (.slice Ao143 t956.length co143)) (fun _ h_ => h_.1))) hb); replace HO_910002 := Aside0.mk (Kd.R_below (by refine rk ?_; exact (Kd.R_mono (Kd.R_far (p := ⟨gb961, 2, none⟩) (Kd.R_far (p := ⟨gb961, 1, none⟩) (Kd.R_far (p := ⟨gb961, 0, none⟩) (Kd.R_types HO_910002.out BK961.out (by decide)) (fun _ hk => hk.2) (.int .i64 t952)) (fun _ hk => hk.2) (.slice Ao142 t953.length co142)) (fun _ hk => hk.2) (.slice Ao143 t956.length co143)) (fun _ h_ => h_.1))) hb); replace HO_918001 := Aside0.mk (Kd.R_below (by refine rk ?_; exact (Kd.R_mono (Kd.R_far (p := ⟨gb961, 2, none⟩) (Kd.R_far (p := ⟨gb961, 1, none⟩) (Kd.R_far (p := ⟨gb961, 0, none⟩) (Kd.R_types HO_918001.out BK961.out (by decide)) (fun _ hk => hk.2) (.int .i64 t952)) (fun _ hk => hk.2) (.slice Ao142 t953.length co142)) (fun _ hk => hk.2) (.slice Ao143 t956.length co143)) (fun _ h_ => h_.1))) hb); replace HO_918002 := Aside0.mk (Kd.R_below (by refine rk ?_; exact (Kd.R_mono (Kd.R_far (p := ⟨gb961, 2, none⟩) (Kd.R_far (p := ⟨gb961, 1, none⟩) (Kd.R_far (p := ⟨gb961, 0, none⟩) (Kd.R_types HO_918002.out BK961.out (by decide)) (fun _ hk => hk.2) (.int .i64 t952)) (fun _ hk => hk.2) (.slice Ao142 t953.length co142)) (fun _ hk => hk.2) (.slice Ao143 t956.length co143)) (fun _ h_ => h_.1))) hb); replace HO_928001 := Aside0.mk (Kd.R_below (by refine rk ?_; exact (Kd.R_mono (Kd.R_far (p := ⟨gb961, 2, none⟩) (Kd.R_far (p := ⟨gb961, 1, none⟩) (Kd.R_far (p := ⟨gb961, 0, none⟩) (Kd.R_types HO_928001.out BK961.out (by decide)) (fun _ hk => hk.2) (.int .i64 t952)) (fun _ hk => hk.2) (.slice Ao142 t953.length co142)) (fun _ hk => hk.2) (.slice Ao143 t956.length co143)) (fun _ h_ => h_.1))) hb); replace HO_928002 := Aside0.mk (Kd.R_below (by refine rk ?_; exact (Kd.R_mono (Kd.R_far (p := ⟨gb961, 2, none⟩) (Kd.R_far (p := ⟨gb961, 1, none⟩) (Kd.R_far (p := ⟨gb961, 0, none⟩) (Kd.R_types HO_928002.out BK961.out (by decide)) (fun _ hk => hk.2) (.int .i64 t952)) (fun _ hk => hk.2) (.slice Ao142 t953.length co142)) (fun _ hk => hk.2) (.slice Ao143 t956.length co143)) (fun _ h_ => h_.1))) hb); replace HO948 := Aside0.mk (Kd.R_below (by refine rk ?_; exact (Kd.R_mono (Kd.R_far (p := ⟨gb961, 2, none⟩) (Kd.R_far (p := ⟨gb961, 1, none⟩) (Kd.R_far (p := ⟨gb961, 0, none⟩) (Kd.R_types HO948.out BK961.out (by decide)) (fun _ hk => hk.2) (.int .i64 t952)) (fun _ hk => hk.2) (.slice Ao142 t953.length co142)) (fun _ hk => hk.2) (.slice Ao143 t956.length co143)) (fun _ h_ => h_.1))) hb); replace HO951 := Aside0.mk (Kd.R_below (by refine rk ?_; exact (Kd.R_mono (Kd.R_far (p := ⟨gb961, 2, none⟩) (Kd.R_far (p := ⟨gb961, 1, none⟩) (Kd.R_far (p := ⟨gb961, 0, none⟩) (Kd.R_types HO951.out BK961.out (by decide)) (fun _ hk => hk.2) (.int .i64 t952)) (fun _ hk => hk.2) (.slice Ao142 t953.length co142)) (fun _ hk => hk.2) (.slice Ao143 t956.length co143)) (fun _ h_ => h_.1))) hb); replace HO955 := Aside0.mk (Kd.R_below (by refine rk ?_; exact (Kd.R_mono (Kd.R_far (p := ⟨gb961, 2, none⟩) (Kd.R_far (p := ⟨gb961, 1, none⟩) (Kd.R_far (p := ⟨gb961, 0, none⟩) (Kd.R_types HO955.out BK961.out (by decide)) (fun _ hk => hk.2) (.int .i64 t952)) (fun _ hk => hk.2) (.slice Ao142 t953.length co142)) (fun _ hk => hk.2) (.slice Ao143 t956.length co143)) (fun _ h_ => h_.1))) hb); replace HO958 := Aside0.mk (Kd.R_below (by refine rk ?_; exact (Kd.R_mono (Kd.R_far (p := ⟨gb961, 2, none⟩) (Kd.R_far (p := ⟨gb961, 1, none⟩) (Kd.R_far (p := ⟨gb961, 0, none⟩) (Kd.R_types HO958.out BK961.out (by decide)) (fun _ hk => hk.2) (.int .i64 t952)) (fun _ hk => hk.2) (.slice Ao142 t953.length co142)) (fun _ hk => hk.2) (.slice Ao143 t956.length co143)) (fun _ h_ => h_.1))) hb); replace BK891 := Aside0.mk (blk_below (g := gb891) (o := .cells #[.int .i64 a0_0, .slice A0_1 l0_1.length c0_1, .slice A0_2 l0_2.length c0_2] 58 (0, 0)) (bf BK891.out) hb); replace BK909 := Aside0.mk (blk_below (g := gb909) (o := .cells #[.int .i64 t900, .slice Ao25 t901.length co25, .slice Ao26 t904.length co26] 41 (0, 0)) (bf BK909.out) hb); replace BK917 := Aside0.mk (blk_below (g := gb917) (o := .cells #[.int .i64 t910, .slice Ao33 t938.length co33, .slice Ao34 t939.length co34] 41 (0, 0)) (bf BK917.out) hb); replace BK927 := Aside0.mk (blk_below (g := gb927) (o := .cells #[.int .i64 t918, .slice Ao41 t919.length co41, .slice Ao42 t922.length co42] 41 (0, 0)) (bf BK927.out) hb); replace BK961 := Aside0.mk (blk_below (g := gb961) (o := .cells #[.int .i64 t952, .slice Ao142 t953.length co142, .slice Ao143 t956.length co143] 41 (0, 0)) (by refine bk ?_; refine blk_put (cs := #[.int .i64 t952, .slice Ao142 t953.length co142, .slice none 0 0]) ?_ 2 _ rfl; refine bk ?_; refine blk_put (cs := #[.int .i64 t952, .slice none 0 0, .slice none 0 0]) ?_ 1 _ rfl; refine bk ?_; refine blk_put (cs := #[.int .i64 0, .slice none 0 0, .slice none 0 0]) ?_ 0 _ rfl; refine bk ?_; exact BK961.out) hb); replace HB := Aside0.mk (below_step (bl HB.out) hb); (try clear hb); (try clear hb2); (try clear hk); (try clear hi)))
             go_meet
             case rel => exact ⟨_, (true), (by first | rfl | (simp; done) | (simp [*]; done)), H', ⟨by have := HJ12.out; have := HJ74.out; first | omega | exact Nat.le_refl _⟩, ⟨by (try simp only [hl918001_74]); (try simp only [hl918002_74]); refine rk ?_; exact Kd.R_mono HO_910001.out (fun _ hk => ⟨hk.1.1.1, ⟨hk.1.1.2, hk.2⟩⟩)⟩, ⟨by (try simp only [hl918001_74]); (try simp only [hl918002_74]); refine rk ?_; exact Kd.R_mono HO_910002.out (fun _ hk => ⟨hk.1.1.1, ⟨hk.1.1.2, hk.2⟩⟩)⟩, ⟨by (try simp only [hl918001_74]); (try simp only [hl918002_74]); refine rk ?_; exact Kd.R_mono HO_918001.out (fun _ hk => ⟨hk.1.1.1, ⟨hk.1.1.2, hk.2⟩⟩)⟩, ⟨by (try simp only [hl918001_74]); (try simp only [hl918002_74]); refine rk ?_; exact Kd.R_mono HO_918002.out (fun _ hk => ⟨hk.1.1.1, ⟨hk.1.1.2, hk.2⟩⟩)⟩, ⟨by (try simp only [hl918001_74]); (try simp only [hl918002_74]); refine rk ?_; exact Kd.R_mono HO_928001.out (fun _ hk => ⟨hk.1.1.1, ⟨hk.1.1.2, hk.2⟩⟩)⟩, ⟨by (try simp only [hl918001_74]); (try simp only [hl918002_74]); refine rk ?_; exact Kd.R_mono HO_928002.out (fun _ hk => ⟨hk.1.1.1, ⟨hk.1.1.2, hk.2⟩⟩)⟩, ⟨by (try simp only [hl918001_74]); (try simp only [hl918002_74]); refine rk ?_; exact Kd.R_mono HO955.out (fun _ hk => ⟨hk.1.1.1.2, ⟨hk.1.1.2, hk.1.2⟩⟩)⟩, ⟨by (try simp only [hl918001_74]); (try simp only [hl918002_74]); refine rk ?_; exact Kd.R_mono HO958.out (fun _ hk => ⟨hk.1.1.1.2, ⟨hk.1.1.2, hk.1.2⟩⟩)⟩, ⟨by (try simp only [hl918001_74]); (try simp only [hl918002_74]); refine bk ?_; exact BK891.out⟩, ⟨by (try simp only [hl918001_74]); (try simp only [hl918002_74]); refine bk ?_; exact BK909.out⟩, ⟨by (try simp only [hl918001_74]); (try simp only [hl918002_74]); refine bk ?_; exact BK917.out⟩, ⟨by (try simp only [hl918001_74]); (try simp only [hl918002_74]); refine bk ?_; exact BK927.out⟩, ⟨by (try simp only [hl918001_74]); (try simp only [hl918002_74]); refine bk ?_; exact BK961.out⟩, ⟨bl HB.out⟩⟩
           case rest =>
            clear HC121
            try clear c1
            try clear c2
            try clear p2
            try clear c3
            try clear c4
            try clear c5
            try clear c5b0
            try clear c6
            try clear c7
            try clear c8
            try clear c9
            try clear c10
            try clear c11
            try clear c12
            try clear c13
            try clear c14
            try clear c15
            try clear c16
            try clear c17
            try clear c23
            try clear c29
            try clear c30
            try clear c31
            try clear c37
            try clear c38
            try clear c39
            try clear c40
            try clear c41
            try clear c44
            try clear c45
            try clear c45b0
            try clear c45b1
            try clear c46
            try clear c47
            try clear c48
            try clear c50
            try clear c51
            try clear c54
            try clear c55
            try clear c56
            try clear c58
            try clear c59
            try clear c62
            try clear c63
            try clear c64
            try clear c66
            try clear c67
            try clear c70
            try clear c73
            try clear c81
            try clear c82
            try clear c83
            try clear c86
            try clear c86b0
            try clear c88
            try clear c89
            try clear c89b0
            try clear c89b1
            try clear c90
            try clear c91
            try clear c92
            try clear c94
            try clear c95
            try clear c98
            try clear c99
            try clear c100
            try clear c102
            try clear c103
            try clear c106
            try clear c107
            try clear c108
            try clear c110
            try clear c111
            try clear c114
            try clear c117
            try clear c117b0
            try clear c118
            try clear c118b0
            try clear c118b1
            try clear c122
            try clear c123
            try clear c124
            try clear c129
            try clear c130
            try clear c137
            try clear c138
            try clear c139
            try clear c140
            try clear c145
            try clear c146
            try clear c146b0
            try clear c146b1
            try clear c147
            try clear c148
            try clear c149
            try clear c150
            try clear c152
            try clear c153
            try clear c154
            try clear c157
            try clear c158
            try clear c159
            try clear c160
            try clear c162
            try clear c163
            try clear c164
            try clear c167
            try clear c168
            try clear c169
            try clear c170
            try clear c172
            try clear c173
            try clear c174
            try clear hcz101_0
            try clear hcz101_1
            try clear hcz101_2
            try clear hcz104_0
            try clear hcz104_1
            try clear hcz104_2
            try clear hcz109_0
            try clear hcz109_1
            try clear hcz109_2
            try clear hcz112_0
            try clear hcz112_1
            try clear hcz112_2
            try clear hcz125_0
            try clear hcz125_1
            try clear hcz125_2
            try clear hcz127_0
            try clear hcz127_1
            try clear hcz127_2
            try clear hcz131_0
            try clear hcz131_1
            try clear hcz131_2
            try clear hcz141_0
            try clear hcz141_1
            try clear hcz141_2
            try clear hcz151_0
            try clear hcz151_1
            try clear hcz151_2
            try clear hcz155_0
            try clear hcz155_1
            try clear hcz155_2
            try clear hcz15_0
            try clear hcz15_1
            try clear hcz15_2
            try clear hcz161_0
            try clear hcz161_1
            try clear hcz161_2
            try clear hcz165_0
            try clear hcz165_1
            try clear hcz165_2
            try clear hcz171_0
            try clear hcz171_1
            try clear hcz171_2
            try clear hcz175_0
            try clear hcz175_1
            try clear hcz175_2
            try clear hcz17_0
            try clear hcz17_1
            try clear hcz17_2
            try clear hcz24_0
            try clear hcz24_1
            try clear hcz24_2
            try clear hcz27_0
            try clear hcz27_1
            try clear hcz27_2
            try clear hcz32_0
            try clear hcz32_1
            try clear hcz32_2
            try clear hcz40_0
            try clear hcz40_1
            try clear hcz40_2
            try clear hcz49_0
            try clear hcz49_1
            try clear hcz49_2
            try clear hcz52_0
            try clear hcz52_1
            try clear hcz52_2
            try clear hcz57_0
            try clear hcz57_1
            try clear hcz57_2
            try clear hcz60_0
            try clear hcz60_1
            try clear hcz60_2
            try clear hcz65_0
            try clear hcz65_1
            try clear hcz65_2
            try clear hcz68_0
            try clear hcz68_1
            try clear hcz68_2
            try clear hcz7_0
            try clear hcz7_1
            try clear hcz7_2
            try clear hcz84_0
            try clear hcz84_1
            try clear hcz84_2
            try clear hcz93_0
            try clear hcz93_1
            try clear hcz93_2
            try clear hcz96_0
            try clear hcz96_1
            try clear hcz96_2
            try clear hfz101_0
            try clear hfz101_1
            try clear hfz101_2
            try clear hfz104_0
            try clear hfz104_1
            try clear hfz104_2
            try clear hfz109_0
            try clear hfz109_1
            try clear hfz109_2
            try clear hfz112_0
            try clear hfz112_1
            try clear hfz112_2
            try clear hfz125_0
            try clear hfz125_1
            try clear hfz125_2
            try clear hfz127_0
            try clear hfz127_1
            try clear hfz127_2
            try clear hfz131_0
            try clear hfz131_1
            try clear hfz131_2
            try clear hfz141_0
            try clear hfz141_1
            try clear hfz141_2
            try clear hfz151_0
            try clear hfz151_1
            try clear hfz151_2
            try clear hfz155_0
            try clear hfz155_1
            try clear hfz155_2
            try clear hfz15_0
            try clear hfz15_1
            try clear hfz15_2
            try clear hfz161_0
            try clear hfz161_1
            try clear hfz161_2
            try clear hfz165_0
            try clear hfz165_1
            try clear hfz165_2
            try clear hfz171_0
            try clear hfz171_1
            try clear hfz171_2
            try clear hfz175_0
            try clear hfz175_1
            try clear hfz175_2
            try clear hfz17_0
            try clear hfz17_1
            try clear hfz17_2
            try clear hfz24_0
            try clear hfz24_1
            try clear hfz24_2
            try clear hfz27_0
            try clear hfz27_1
            try clear hfz27_2
            try clear hfz32_0
            try clear hfz32_1
            try clear hfz32_2
            try clear hfz40_0
            try clear hfz40_1
            try clear hfz40_2
            try clear hfz49_0
            try clear hfz49_1
            try clear hfz49_2
            try clear hfz52_0
            try clear hfz52_1
            try clear hfz52_2
            try clear hfz57_0
            try clear hfz57_1
            try clear hfz57_2
            try clear hfz60_0
            try clear hfz60_1
            try clear hfz60_2
            try clear hfz65_0
            try clear hfz65_1
            try clear hfz65_2
            try clear hfz68_0
            try clear hfz68_1
            try clear hfz68_2
            try clear hfz7_0
            try clear hfz7_1
            try clear hfz7_2
            try clear hfz84_0
            try clear hfz84_1
            try clear hfz84_2
            try clear hfz93_0
            try clear hfz93_1
            try clear hfz93_2
            try clear hfz96_0
            try clear hfz96_1
            try clear hfz96_2
            try clear p2
            obtain ⟨kq, x118_120, rfl, HA, HJ120, HO_910001, HO_910002, HO_918001, HO_918002, HO_928001, HO_928002, HO_962001, HO_962002, BK891, BK909, BK917, BK927, BK961, HB⟩ := hcut
            have hl928001_120 := (Kd.R_reads' HO_928001.out).1
            rw [hl928001_120] at HO_928001
            (try simp only [hl928001_120])
            (try simp only [hl928001_120] at BK891)
            (try simp only [hl928001_120] at BK909)
            (try simp only [hl928001_120] at BK917)
            (try simp only [hl928001_120] at BK927)
            (try simp only [hl928001_120] at BK961)
            (try simp only [hl928001_120] at HO_910001)
            (try simp only [hl928001_120] at HO_910002)
            (try simp only [hl928001_120] at HO_918001)
            (try simp only [hl928001_120] at HO_918002)
            (try simp only [hl928001_120] at HO_928002)
            (try simp only [hl928001_120] at HO_962001)
            (try simp only [hl928001_120] at HO_962002)
            have hl928002_120 := (Kd.R_reads' HO_928002.out).1
            rw [hl928002_120] at HO_928002
            (try simp only [hl928002_120])
            (try simp only [hl928002_120] at BK891)
            (try simp only [hl928002_120] at BK909)
            (try simp only [hl928002_120] at BK917)
            (try simp only [hl928002_120] at BK927)
            (try simp only [hl928002_120] at BK961)
            (try simp only [hl928002_120] at HO_910001)
            (try simp only [hl928002_120] at HO_910002)
            (try simp only [hl928002_120] at HO_918001)
            (try simp only [hl928002_120] at HO_918002)
            (try simp only [hl928002_120] at HO_928001)
            (try simp only [hl928002_120] at HO_962001)
            (try simp only [hl928002_120] at HO_962002)
            cases kq with
            | zero => exact absurd HA.out (by simp [laws_FnExactPutIn.j2])
            | succ kj120 =>
             have H := HA.out
             clear HA
             simp only [laws_FnExactPutIn.j2] at H
             by_cases c177 : x118_120 = true
             ·subst c177
              rw [if_pos rfl] at H
              exact absurd (Option.some.inj H) (by rw [hr_.out]; decide)
             ·replace c177 := Bool.eq_false_iff.mpr c177
              subst c177
              rw [if_neg (show ¬ (false = true) by decide)] at H
              replace H := Option.bind_eq_some_iff.mp H
              obtain ⟨t963, A1780, H⟩ := H
              try dsimp only at H
              have A178 := Aside0.mk A1780
              clear A1780
              by_cases c179 : t963 < 0
              ·rw [if_pos c179] at H
               have c179b0 : decide (t963 < 0) = true := decide_eq_true c179
               clear c179
               exact absurd (Option.some.inj H) (by rw [hr_.out]; decide)
              ·rw [if_neg c179] at H
               have c179b0 : decide (t963 < 0) = false := decide_eq_false c179
               clear c179
               by_cases c180 : t963 = t941
               ·rw [if_pos c180] at H
                have c180b0 : (t963 == t941) = true := beq_iff_eq.mpr c180
                have c180b1 : (t963 != t941) = false := bne_eq_false_iff_eq.mpr c180
                clear c180
                obtain rfl := Option.some.inj H
                have hnb181 := NB927_891.out
                have hnc181 := NB891_927.out
                have hnb182 := NB927_909.out
                have hnc182 := NB909_927.out
                have hnb183 := NB927_917.out
                have hnc183 := NB917_927.out
                have hnb184 := NB927_961.out
                have hnc184 := NB961_927.out
                obtain ⟨hcz185_0, hcz185_1, hcz185_2, hfz185_0, hfz185_1, hfz185_2⟩ := cz3 BK927.out
                go_wp2_with (first | ((with_reducible refine gate_callee (f := 41) rfl ?_); refine goesL_ (some 121) rfl rfl Try.func41 (by kernel_rfl) rfl #[.agg #[.int .i64 t918, .slice Ao41 t942.length co41, .slice Ao42 t943.length co42], .int .i64 1] rfl mapd ?_; (with_reducible refine (laws_heldColumn.calls kj120 t918 _ _ t942 _ _ t943 1 t963 _ ?side1 ?side2 ?side3 ?side4 A178.out).mono ?_); (case side1 => exact cb ((Kd.R_reads' HO_928001.out).2.2)); (case side2 => exact (Kd.R_reads' HO_928001.out).2.1); (case side3 => exact cb ((Kd.R_reads' HO_928002.out).2.2)); (case side4 => exact (Kd.R_reads' HO_928002.out).2.1); rintro e w186 ⟨rfl, hb⟩; refine ⟨_, rfl, ?_⟩; replace HO_910001 := Aside0.mk (Kd.R_below (rk HO_910001.out) hb); replace HO_910002 := Aside0.mk (Kd.R_below (rk HO_910002.out) hb); replace HO_918001 := Aside0.mk (Kd.R_below (rk HO_918001.out) hb); replace HO_918002 := Aside0.mk (Kd.R_below (rk HO_918002.out) hb); replace HO_928001 := Aside0.mk (Kd.R_below (rk HO_928001.out) hb); replace HO_928002 := Aside0.mk (Kd.R_below (rk HO_928002.out) hb); replace HO_962001 := Aside0.mk (Kd.R_below (rk HO_962001.out) hb); replace HO_962002 := Aside0.mk (Kd.R_below (rk HO_962002.out) hb); replace BK891 := Aside0.mk (bb BK891.out hb); replace BK909 := Aside0.mk (bb BK909.out hb); replace BK917 := Aside0.mk (bb BK917.out hb); replace BK927 := Aside0.mk (bb BK927.out hb); replace BK961 := Aside0.mk (bb BK961.out hb); replace HB := Aside0.mk (below_step (bl HB.out) hb); (try clear hb); (try clear hb2); (try clear hk); (try clear hi)))
                go_ret
                exact ⟨by first | rfl | (simp [errW_none, errW_some] <;> rfl) | (simp [*, errW_none, errW_some] <;> rfl), bl HB.out⟩
               ·rw [if_neg c180] at H
                have c180b0 : (t963 == t941) = false := beq_eq_false_iff_ne.mpr c180
                have c180b1 : (t963 != t941) = true := bne_iff_ne.mpr c180
                exact absurd (Option.some.inj H) (by rw [hr_.out]; decide)
          ·rw [if_neg c118] at H
           have c118b0 : (t944 == t941) = false := beq_eq_false_iff_ne.mpr c118
           have c118b1 : (t944 != t941) = true := bne_iff_ne.mpr c118
           exact absurd (Option.some.inj H) (by rw [hr_.out]; decide)
     ·replace c73 := Bool.eq_false_iff.mpr c73
      subst c73
      rw [if_neg (show ¬ (false = true) by decide)] at H
      exact absurd (Option.some.inj H) (by rw [hr_.out]; decide)
end Go.Proofs.Ytbpjidekjogfeaa.A
