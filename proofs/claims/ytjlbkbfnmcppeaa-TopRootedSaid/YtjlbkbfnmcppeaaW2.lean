/-
  What calls of the program's functions come to (part W2): each function walked once; the conditions stand in each theorem.
-/
import Derived.Test.YtjlbkbfnmcppeaaW1
set_option maxHeartbeats 2000000
set_option linter.unusedSimpArgs false
set_option linter.unusedVariables false
set_option maxRecDepth 100000
namespace Go.Proofs.Ytjlbkbfnmcppeaa.Sl
open Go Go.RowKit
def startL : List Int := [1779033703, 3144134277, 1013904242, 2773480762, 1359893119, 2600822924, 528734635, 1541459225]

def rootsL : List Int := [1116352408, 1899447441, 3049323471, 3921009573, 961987163, 1508970993, 2453635748, 2870763221, 3624381080, 310598401, 607225278, 1426881987, 1925078388, 2162078206, 2614888103, 3248222580, 3835390401, 4022224774, 264347078, 604807628, 770255983, 1249150122, 1555081692, 1996064986, 2554220882, 2821834349, 2952996808, 3210313671, 3336571891, 3584528711, 113926993, 338241895, 666307205, 773529912, 1294757372, 1396182291, 1695183700, 1986661051, 2177026350, 2456956037, 2730485921, 2820302411, 3259730800, 3345764771, 3516065817, 3600352804, 4094571909, 275423344, 430227734, 506948616, 659060556, 883997877, 958139571, 1322822218, 1537002063, 1747873779, 1955562222, 2024104815, 2227730452, 2361852424, 2428436474, 2756734187, 3204031479, 3329325298]

theorem start_c  (w : World) :
    Calls Try.prog 31 #[] w (fun e w' => e = .returned (.agg (uv .u32 startL)) ∧ Below w.heap.size w w') := by
  refine calls_WC (c := _) (n := 2) (vs := []) Try.func31 rfl Try.ntmps31 (Nat.le_of_ble_eq_true rfl) ?_
  have S := SL.start w
  refine WC_seq ?_
  refine WC_region ?_
  refine WL_cons (WO_alloc (row := uv .u32 (List.replicate 8 0)) S (on_none rfl) (by decide) ti58 rfl ?_)
  intro g1 wg1 S
  refine WL_nil ?_
  show WC Try.prog 2 _ _ _ _
  refine WC_seq ?_
  refine WC_region ?_
  refine WL_cons (WO_val (v := (.agg (uv .u32 [1779033703, 3144134277, 1013904242, 2773480762, 1359893119, 2600822924, 528734635, 1541459225]))) (on_none rfl) rfl (by decide) (x_build_arr (vs := [(.int .u32 1779033703), (.int .u32 3144134277), (.int .u32 1013904242), (.int .u32 2773480762), (.int .u32 1359893119), (.int .u32 2600822924), (.int .u32 528734635), (.int .u32 1541459225)]) (row := uv .u32 [1779033703, 3144134277, 1013904242, 2773480762, 1359893119, 2600822924, 528734635, 1541459225]) Try.underlying58 ti57.sz ti58 ((uv_size _ _).trans (by rfl)) rfl (by simp [Value.cells]) rfl) ?_)
  refine WL_cons (WO_store (v := (.agg (uv .u32 [1779033703, 3144134277, 1013904242, 2773480762, 1359893119, 2600822924, 528734635, 1541459225]))) (row := uv .u32 (List.replicate 8 0)) (row' := uv .u32 [1779033703, 3144134277, 1013904242, 2773480762, 1359893119, 2600822924, 528734635, 1541459225]) S (on_none rfl) rfl rfl (.here _) ti58.sz ((uv_size _ _).trans (by first | rfl | simp | (simp; assumption) | assumption)) (by rw [show (uv .u32 (List.replicate 8 0)).size = 8 from ((uv_size _ _).trans (by first | rfl | simp | (simp; assumption) | assumption))]; exact Nat.le_refl _) (uv_one _ _) (splice_all _ _ ((((uv_size _ _).trans (by first | rfl | simp | (simp; assumption) | assumption))).trans (((uv_size _ _).trans (by first | rfl | simp | (simp; assumption) | assumption))).symm)) ?_)
  intro ws1 S
  refine WL_nil ?_
  show WC Try.prog 2 _ _ _ _
  refine WC_ret ?_
  show retQ Try.prog Try.f31 _ .ret _ _
  exact retc (fn := Try.f31) S rfl rfl (.here _) Try.underlying58 rfl (by rw [show (uv .u32 [1779033703, 3144134277, 1013904242, 2773480762, 1359893119, 2600822924, 528734635, 1541459225]).size = 8 from (uv_size _ _).trans rfl]; exact ti58.sz) ⟨rfl, S.below⟩

theorem roots_c  (w : World) :
    Calls Try.prog 32 #[] w (fun e w' => e = .returned (.agg (uv .u32 rootsL)) ∧ Below w.heap.size w w') := by
  refine calls_WC (c := _) (n := 2) (vs := []) Try.func32 rfl Try.ntmps32 (Nat.le_of_ble_eq_true rfl) ?_
  have S := SL.start w
  refine WC_seq ?_
  refine WC_region ?_
  refine WL_cons (WO_alloc (row := uv .u32 (List.replicate 64 0)) S (on_none rfl) (by decide) ti60 rfl ?_)
  intro g1 wg1 S
  refine WL_nil ?_
  show WC Try.prog 2 _ _ _ _
  refine WC_seq ?_
  refine WC_region ?_
  refine WL_cons (WO_val (v := (.agg (uv .u32 [1116352408, 1899447441, 3049323471, 3921009573, 961987163, 1508970993, 2453635748, 2870763221, 3624381080, 310598401, 607225278, 1426881987, 1925078388, 2162078206, 2614888103, 3248222580, 3835390401, 4022224774, 264347078, 604807628, 770255983, 1249150122, 1555081692, 1996064986, 2554220882, 2821834349, 2952996808, 3210313671, 3336571891, 3584528711, 113926993, 338241895, 666307205, 773529912, 1294757372, 1396182291, 1695183700, 1986661051, 2177026350, 2456956037, 2730485921, 2820302411, 3259730800, 3345764771, 3516065817, 3600352804, 4094571909, 275423344, 430227734, 506948616, 659060556, 883997877, 958139571, 1322822218, 1537002063, 1747873779, 1955562222, 2024104815, 2227730452, 2361852424, 2428436474, 2756734187, 3204031479, 3329325298]))) (on_none rfl) rfl (by decide) (x_build_arr (vs := [(.int .u32 1116352408), (.int .u32 1899447441), (.int .u32 3049323471), (.int .u32 3921009573), (.int .u32 961987163), (.int .u32 1508970993), (.int .u32 2453635748), (.int .u32 2870763221), (.int .u32 3624381080), (.int .u32 310598401), (.int .u32 607225278), (.int .u32 1426881987), (.int .u32 1925078388), (.int .u32 2162078206), (.int .u32 2614888103), (.int .u32 3248222580), (.int .u32 3835390401), (.int .u32 4022224774), (.int .u32 264347078), (.int .u32 604807628), (.int .u32 770255983), (.int .u32 1249150122), (.int .u32 1555081692), (.int .u32 1996064986), (.int .u32 2554220882), (.int .u32 2821834349), (.int .u32 2952996808), (.int .u32 3210313671), (.int .u32 3336571891), (.int .u32 3584528711), (.int .u32 113926993), (.int .u32 338241895), (.int .u32 666307205), (.int .u32 773529912), (.int .u32 1294757372), (.int .u32 1396182291), (.int .u32 1695183700), (.int .u32 1986661051), (.int .u32 2177026350), (.int .u32 2456956037), (.int .u32 2730485921), (.int .u32 2820302411), (.int .u32 3259730800), (.int .u32 3345764771), (.int .u32 3516065817), (.int .u32 3600352804), (.int .u32 4094571909), (.int .u32 275423344), (.int .u32 430227734), (.int .u32 506948616), (.int .u32 659060556), (.int .u32 883997877), (.int .u32 958139571), (.int .u32 1322822218), (.int .u32 1537002063), (.int .u32 1747873779), (.int .u32 1955562222), (.int .u32 2024104815), (.int .u32 2227730452), (.int .u32 2361852424), (.int .u32 2428436474), (.int .u32 2756734187), (.int .u32 3204031479), (.int .u32 3329325298)]) (row := uv .u32 [1116352408, 1899447441, 3049323471, 3921009573, 961987163, 1508970993, 2453635748, 2870763221, 3624381080, 310598401, 607225278, 1426881987, 1925078388, 2162078206, 2614888103, 3248222580, 3835390401, 4022224774, 264347078, 604807628, 770255983, 1249150122, 1555081692, 1996064986, 2554220882, 2821834349, 2952996808, 3210313671, 3336571891, 3584528711, 113926993, 338241895, 666307205, 773529912, 1294757372, 1396182291, 1695183700, 1986661051, 2177026350, 2456956037, 2730485921, 2820302411, 3259730800, 3345764771, 3516065817, 3600352804, 4094571909, 275423344, 430227734, 506948616, 659060556, 883997877, 958139571, 1322822218, 1537002063, 1747873779, 1955562222, 2024104815, 2227730452, 2361852424, 2428436474, 2756734187, 3204031479, 3329325298]) Try.underlying60 ti57.sz ti60 ((uv_size _ _).trans (by rfl)) rfl (by simp [Value.cells]) rfl) ?_)
  refine WL_cons (WO_store (v := (.agg (uv .u32 [1116352408, 1899447441, 3049323471, 3921009573, 961987163, 1508970993, 2453635748, 2870763221, 3624381080, 310598401, 607225278, 1426881987, 1925078388, 2162078206, 2614888103, 3248222580, 3835390401, 4022224774, 264347078, 604807628, 770255983, 1249150122, 1555081692, 1996064986, 2554220882, 2821834349, 2952996808, 3210313671, 3336571891, 3584528711, 113926993, 338241895, 666307205, 773529912, 1294757372, 1396182291, 1695183700, 1986661051, 2177026350, 2456956037, 2730485921, 2820302411, 3259730800, 3345764771, 3516065817, 3600352804, 4094571909, 275423344, 430227734, 506948616, 659060556, 883997877, 958139571, 1322822218, 1537002063, 1747873779, 1955562222, 2024104815, 2227730452, 2361852424, 2428436474, 2756734187, 3204031479, 3329325298]))) (row := uv .u32 (List.replicate 64 0)) (row' := uv .u32 [1116352408, 1899447441, 3049323471, 3921009573, 961987163, 1508970993, 2453635748, 2870763221, 3624381080, 310598401, 607225278, 1426881987, 1925078388, 2162078206, 2614888103, 3248222580, 3835390401, 4022224774, 264347078, 604807628, 770255983, 1249150122, 1555081692, 1996064986, 2554220882, 2821834349, 2952996808, 3210313671, 3336571891, 3584528711, 113926993, 338241895, 666307205, 773529912, 1294757372, 1396182291, 1695183700, 1986661051, 2177026350, 2456956037, 2730485921, 2820302411, 3259730800, 3345764771, 3516065817, 3600352804, 4094571909, 275423344, 430227734, 506948616, 659060556, 883997877, 958139571, 1322822218, 1537002063, 1747873779, 1955562222, 2024104815, 2227730452, 2361852424, 2428436474, 2756734187, 3204031479, 3329325298]) S (on_none rfl) rfl rfl (.here _) ti60.sz ((uv_size _ _).trans (by first | rfl | simp | (simp; assumption) | assumption)) (by rw [show (uv .u32 (List.replicate 64 0)).size = 64 from ((uv_size _ _).trans (by first | rfl | simp | (simp; assumption) | assumption))]; exact Nat.le_refl _) (uv_one _ _) (splice_all _ _ ((((uv_size _ _).trans (by first | rfl | simp | (simp; assumption) | assumption))).trans (((uv_size _ _).trans (by first | rfl | simp | (simp; assumption) | assumption))).symm)) ?_)
  intro ws1 S
  refine WL_nil ?_
  show WC Try.prog 2 _ _ _ _
  refine WC_ret ?_
  show retQ Try.prog Try.f32 _ .ret _ _
  exact retc (fn := Try.f32) S rfl rfl (.here _) Try.underlying60 rfl (by rw [show (uv .u32 [1116352408, 1899447441, 3049323471, 3921009573, 961987163, 1508970993, 2453635748, 2870763221, 3624381080, 310598401, 607225278, 1426881987, 1925078388, 2162078206, 2614888103, 3248222580, 3835390401, 4022224774, 264347078, 604807628, 770255983, 1249150122, 1555081692, 1996064986, 2554220882, 2821834349, 2952996808, 3210313671, 3336571891, 3584528711, 113926993, 338241895, 666307205, 773529912, 1294757372, 1396182291, 1695183700, 1986661051, 2177026350, 2456956037, 2730485921, 2820302411, 3259730800, 3345764771, 3516065817, 3600352804, 4094571909, 275423344, 430227734, 506948616, 659060556, 883997877, 958139571, 1322822218, 1537002063, 1747873779, 1955562222, 2024104815, 2227730452, 2361852424, 2428436474, 2756734187, 3204031479, 3329325298]).size = 64 from (uv_size _ _).trans rfl]; exact ti60.sz) ⟨rfl, S.below⟩

def wordsIStep (s : ByteArray) (i : Int) (i2 : Int) (v : List Int) : List Int := ((nset v i (bitop .or .u32 (IntKind.u32.wrap ((nth v i) * 2 ^ (min (8 : Int).toNat IntKind.u32.bits))) (IntKind.u32.wrap (bt s ((4 * i) + i2))))))
def wordsIF (s : ByteArray) (i : Int) : Nat → Int → List Int → List Int
  | 0, _, xx => xx
  | ff + 1, jj, xx => wordsIF s i ff (jj + 1) (wordsIStep s i jj xx)
theorem wordsIF_length (s : ByteArray) (i : Int) : ∀ (ff : Nat) (jj : Int) (v : List Int), (wordsIF s i ff jj v).length = v.length
  | 0, _, _ => rfl
  | ff + 1, jj, v => (wordsIF_length s i ff (jj + 1) _).trans (nset_length _ _ _)
def wordsOStep (s : ByteArray) (i : Int) (ww : List Int) : List Int := ((wordsIF s i 4 0 ww))
def wordsOF (s : ByteArray) : Nat → Int → List Int → List Int
  | 0, _, xx => xx
  | ff + 1, jj, xx => wordsOF s ff (jj + 1) (wordsOStep s jj xx)
def wordsStep  (i3 : Int) (v : List Int) : List Int := ((nset v i3 (IntKind.u32.wrap ((IntKind.u32.wrap ((IntKind.u32.wrap ((nth v (i3 - 16)) + (nth v (i3 - 7)))) + (bitop .xor .u32 (bitop .xor .u32 (rotl (nth v (i3 - 15)) (-7)) (rotl (nth v (i3 - 15)) (-18))) (Int.fdiv (nth v (i3 - 15)) (2 ^ (min (3 : Int).toNat IntKind.u32.bits)))))) + (bitop .xor .u32 (bitop .xor .u32 (rotl (nth v (i3 - 2)) (-17)) (rotl (nth v (i3 - 2)) (-19))) (Int.fdiv (nth v (i3 - 2)) (2 ^ (min (10 : Int).toNat IntKind.u32.bits))))))))
def wordsF  : Nat → Int → List Int → List Int
  | 0, _, xx => xx
  | ff + 1, jj, xx => wordsF  ff (jj + 1) (wordsStep  jj xx)
theorem words_c (s : ByteArray) (hs : s.size = 64) (w : World) :
    Calls Try.prog 33 #[(.string s)] w (fun e w' => e = .returned (.agg (uv .u32 (wordsF 48 16 (wordsOF s 16 0 (List.replicate 64 0))))) ∧ Below w.heap.size w w') := by
  refine calls_WC (c := _) (n := 73) (vs := [(.string s)]) Try.func33 rfl Try.ntmps33 (Nat.le_of_ble_eq_true rfl) ?_
  have S := SL.start w
  refine WC_seq ?_
  refine WC_region ?_
  refine WL_cons (WO_alloc (row := uv .u32 (List.replicate 64 0)) S (on_none rfl) (by decide) ti60 rfl ?_)
  intro g1 wg1 S
  refine WL_nil ?_
  show WC Try.prog 73 _ _ _ _
  refine WC_seq ?_
  refine WC_region ?_
  refine WL_cons (WO_alloc (row := uv .u32 (List.replicate 64 0)) S (on_none rfl) (by decide) ti60 rfl ?_)
  intro g2 wg2 S
  refine WL_nil ?_
  show WC Try.prog 73 _ _ _ _
  refine WC_seq ?_
  refine WC_seq ?_
  refine WC_region ?_
  refine WL_cons (WO_val (v := (.int .i64 0)) (on_none rfl) rfl (by decide) (x_mv (v := (.int .i64 0)) rfl) ?_)
  refine WL_nil ?_
  show WC Try.prog 73 _ _ _ _
  refine WC_block ?_
  refine WC_loop (fun kq e' w' => ∃ (f : Nat) (i : Int) (ww : List Int) (eb : Env), e' = updL eb [(0, (.string s)), (2, (.pointer (some ⟨g1, 0, none⟩))), (3, (.pointer (some ⟨g2, 0, none⟩))), (9, (.int .i64 i))] ∧ SL w [blk g2 60 (uv .u32 ww), blk g1 60 (uv .u32 (List.replicate 64 0))] w' ∧ (i + (f : Int) = 16) ∧ (0 ≤ i) ∧ (ww.length = 64) ∧ (wordsOF s f i (ww) = wordsOF s 16 0 (List.replicate 64 0)) ∧ f = kq) (k := 16) ⟨16, 0, List.replicate 64 0, _, (updL_eq _ _ (by exact ⟨rfl, rfl, rfl, rfl, trivial⟩)).symm, S, (by omega), (by omega), (List.length_replicate ..), rfl, rfl⟩ ?_
  clear S
  rintro k1 e1 wl1 ⟨f, i, ww, eb, rfl, S, hif, hi0, hw, hF, rfl⟩
  show WC Try.prog 73 _ _ _ _
  refine WC_seq ?_
  refine WC_region ?_
  refine WL_cons (WO_val (v := (.bool (decide (i < 16)))) (on_none rfl) rfl (by decide) (x_lss (a := i) (b := 16) rfl rfl) ?_)
  refine WL_nil ?_
  show WC Try.prog 73 _ _ _ _
  refine WC_seq ?_
  refine WC_cond (t := decide (i < 16)) rfl (fun hc1 => ?_) (fun hc1 => ?_)
  · show WC Try.prog 73 _ _ _ _
    have hc1_ := of_decide_eq_true hc1
    obtain ⟨f, rfl⟩ : ∃ m, f = m + 1 := ⟨f - 1, by omega⟩
    refine WC_skip ?_
    show WC Try.prog 73 _ _ _ _
    refine WC_seq ?_
    refine WC_block ?_
    refine WC_seq ?_
    refine WC_region ?_
    refine WL_cons (WO_val (v := (.int .i64 i)) (on_none rfl) rfl (by decide) (x_mv (v := (.int .i64 i)) rfl) ?_)
    refine WL_cons (WO_val (v := (.int .i64 i)) (on_none rfl) rfl (by decide) (x_as (v := (.int .i64 i)) rfl) ?_)
    refine WL_nil ?_
    show WC Try.prog 73 _ _ _ _
    refine WC_seq ?_
    refine WC_region ?_
    refine WL_cons (WO_val (v := (.int .i64 0)) (on_none rfl) rfl (by decide) (x_mv (v := (.int .i64 0)) rfl) ?_)
    refine WL_nil ?_
    show WC Try.prog 73 _ _ _ _
    refine WC_block ?_
    refine WC_loop (fun kq e' w' => ∃ (f2 : Nat) (i2 : Int) (v : List Int) (eb : Env), e' = updL eb [(0, (.string s)), (2, (.pointer (some ⟨g1, 0, none⟩))), (3, (.pointer (some ⟨g2, 0, none⟩))), (4, (.int .i64 i)), (9, (.int .i64 i)), (12, (.int .i64 i2))] ∧ SL w [blk g2 60 (uv .u32 v), blk g1 60 (uv .u32 (List.replicate 64 0))] w' ∧ (i2 + (f2 : Int) = 4) ∧ (0 ≤ i2) ∧ (v.length = 64) ∧ (wordsIF s i f2 i2 (v) = wordsIF s i 4 0 (ww)) ∧ f2 = kq) (k := 4) ⟨4, 0, ww, _, (updL_eq _ _ (by exact ⟨rfl, rfl, rfl, rfl, rfl, rfl, trivial⟩)).symm, S, (by omega), (by omega), hw, rfl, rfl⟩ ?_
    clear S
    rintro k2 e2 wl2 ⟨f2, i2, v, eb, rfl, S, hif2, hi02, hv_, hF2, rfl⟩
    show WC Try.prog 73 _ _ _ _
    refine WC_seq ?_
    refine WC_region ?_
    refine WL_cons (WO_val (v := (.bool (decide (i2 < 4)))) (on_none rfl) rfl (by decide) (x_lss (a := i2) (b := 4) rfl rfl) ?_)
    refine WL_nil ?_
    show WC Try.prog 73 _ _ _ _
    refine WC_seq ?_
    refine WC_cond (t := decide (i2 < 4)) rfl (fun hc2 => ?_) (fun hc2 => ?_)
    · show WC Try.prog 73 _ _ _ _
      have hc2_ := of_decide_eq_true hc2
      obtain ⟨f2, rfl⟩ : ∃ m, f2 = m + 1 := ⟨f2 - 1, by omega⟩
      refine WC_skip ?_
      show WC Try.prog 73 _ _ _ _
      refine WC_seq ?_
      refine WC_block ?_
      refine WC_seq ?_
      refine WC_region ?_
      refine WL_cons (WO_val (v := (.int .i64 i2)) (on_none rfl) rfl (by decide) (x_mv (v := (.int .i64 i2)) rfl) ?_)
      refine WL_cons (WO_val (v := (.int .i64 i2)) (on_none rfl) rfl (by decide) (x_as (v := (.int .i64 i2)) rfl) ?_)
      refine WL_nil ?_
      show WC Try.prog 73 _ _ _ _
      refine WC_draw (S := fun wx => wx.heap[g2]? = some (.cells (uv .u32 v) 60 (0, 0)) ∧ True) (Z := [14]) rfl ?_
      replace S := S.drew
      have hS : (World.drew wl2).heap[g2]? = some (.cells (uv .u32 v) 60 (0, 0)) ∧ True := ⟨(S.blk_get (.here _)), trivial⟩
      show WD Try.prog 73 _ _ _ _ 15 [] _ _
      refine WD_look (v := (.int .i64 i)) (i := 0) rfl (by kernel_rfl) rfl (by decide) (on_none rfl) (fun wx hs => (x_mv (v := (.int .i64 i)) rfl)) hS ?_
      show WD Try.prog 73 _ _ _ _ 14 _ _ _
      refine WD_look (v := (.int .i64 i)) (i := 1) rfl (by kernel_rfl) rfl (by decide) (on_none rfl) (fun wx hs => (x_mv (v := (.int .i64 i)) rfl)) hS ?_
      show WD Try.prog 73 _ _ _ _ 13 _ _ _
      refine WD_look (v := (.pointer (some ⟨g2, (i : Int).toNat * 1, none⟩))) (i := 2) rfl (by kernel_rfl) rfl (by decide) (on_none rfl) (fun wx hs => (x_index_row (i := i) rfl rfl Try.underlying60 ti57.sz (by omega) (by omega))) hS ?_
      show WD Try.prog 73 _ _ _ _ 12 _ _ _
      refine WD_look (v := (.int .u32 (nth v i))) (i := 3) rfl (by kernel_rfl) rfl (by decide) (on_none rfl) (fun wx hs => (x_load_cell (v := .int .u32 (nth v i)) rfl (cell_row (hs.1) (uv_nth (by omega) (by omega))) Try.underlying57 rfl)) hS ?_
      show WD Try.prog 73 _ _ _ _ 11 _ _ _
      refine WD_look (v := (.int .u32 (IntKind.u32.wrap ((nth v i) * 2 ^ (min (8 : Int).toNat IntKind.u32.bits))))) (i := 4) rfl (by kernel_rfl) rfl (by decide) (on_none rfl) (fun wx hs => (x_shl (a := nth v i) (b := 8) rfl rfl (by omega))) hS ?_
      show WD Try.prog 73 _ _ _ _ 10 _ _ _
      refine WD_look (v := (.string s)) (i := 5) rfl (by kernel_rfl) rfl (by decide) (on_none rfl) (fun wx hs => (x_mv (v := (.string s)) rfl)) hS ?_
      show WD Try.prog 73 _ _ _ _ 9 _ _ _
      refine WD_look (v := (.int .i64 i)) (i := 6) rfl (by kernel_rfl) rfl (by decide) (on_none rfl) (fun wx hs => (x_mv (v := (.int .i64 i)) rfl)) hS ?_
      show WD Try.prog 73 _ _ _ _ 8 _ _ _
      refine WD_look (v := (.int .i64 (4 * i))) (i := 7) rfl (by kernel_rfl) rfl (by decide) (on_none rfl) (fun wx hs => (x_mul (a := 4) (b := i) rfl rfl (wi64 (by omega)))) hS ?_
      show WD Try.prog 73 _ _ _ _ 7 _ _ _
      refine WD_look (v := (.int .i64 i2)) (i := 8) rfl (by kernel_rfl) rfl (by decide) (on_none rfl) (fun wx hs => (x_mv (v := (.int .i64 i2)) rfl)) hS ?_
      show WD Try.prog 73 _ _ _ _ 6 _ _ _
      refine WD_look (v := (.int .i64 ((4 * i) + i2))) (i := 9) rfl (by kernel_rfl) rfl (by decide) (on_none rfl) (fun wx hs => (x_add (a := 4 * i) (b := i2) rfl rfl (wi64 (by omega)))) hS ?_
      show WD Try.prog 73 _ _ _ _ 5 _ _ _
      refine WD_look (v := (.int .u8 (bt s ((4 * i) + i2)))) (i := 10) rfl (by kernel_rfl) rfl (by decide) (on_none rfl) (fun wx hs => (x_bt (s := s) (i := (4 * i) + i2) rfl rfl Try.underlying9 (by omega) (by omega))) hS ?_
      show WD Try.prog 73 _ _ _ _ 4 _ _ _
      refine WD_look (v := (.int .u32 (IntKind.u32.wrap (bt s ((4 * i) + i2))))) (i := 11) rfl (by kernel_rfl) rfl (by decide) (on_none rfl) (fun wx hs => (x_convw (a := bt s ((4 * i) + i2)) rfl Try.underlying5 Try.underlying57)) hS ?_
      show WD Try.prog 73 _ _ _ _ 3 _ _ _
      refine WD_look (v := (.int .u32 (bitop .or .u32 (IntKind.u32.wrap ((nth v i) * 2 ^ (min (8 : Int).toNat IntKind.u32.bits))) (IntKind.u32.wrap (bt s ((4 * i) + i2)))))) (i := 12) rfl (by kernel_rfl) rfl (by decide) (on_none rfl) (fun wx hs => (x_or (a := IntKind.u32.wrap ((nth v i) * 2 ^ (min (8 : Int).toNat IntKind.u32.bits))) (b := IntKind.u32.wrap (bt s ((4 * i) + i2))) rfl rfl)) hS ?_
      show WD Try.prog 73 _ _ _ _ 2 _ _ _
      refine WD_look (v := (.pointer (some ⟨g2, (i : Int).toNat * 1, none⟩))) (i := 13) rfl (by kernel_rfl) rfl (by decide) (on_none rfl) (fun wx hs => (x_index_row (i := i) rfl rfl Try.underlying60 ti57.sz (by omega) (by omega))) hS ?_
      show WD Try.prog 73 _ _ _ _ 1 _ _ _
      refine WD_one (i := 14) rfl (by kernel_rfl) (WO_store (v := (.int .u32 (bitop .or .u32 (IntKind.u32.wrap ((nth v i) * 2 ^ (min (8 : Int).toNat IntKind.u32.bits))) (IntKind.u32.wrap (bt s ((4 * i) + i2)))))) (row := uv .u32 v) (row' := uv .u32 (nset v i (bitop .or .u32 (IntKind.u32.wrap ((nth v i) * 2 ^ (min (8 : Int).toNat IntKind.u32.bits))) (IntKind.u32.wrap (bt s ((4 * i) + i2)))))) S (on_none rfl) rfl rfl (.here _) ti57.sz rfl (by rw [uv_size]; omega) (by simp [Value.cells, Value.oneCell']) (splice_uv (by omega) (by omega)) ?_)
      intro ws1 S
      refine ⟨.inr rfl, ?_⟩
      refine WD_done (by kernel_rfl) ?_
      clear hS
      show WC Try.prog 73 _ _ _ _
      refine WC_region ?_
      refine WL_cons (WO_val (v := (.int .i64 (i2 + 1))) (on_none rfl) rfl (by decide) (x_add (a := i2) (b := 1) rfl rfl (wi64 (by omega))) ?_)
      refine WL_cons (WO_val (v := (.int .i64 (i2 + 1))) (on_none rfl) rfl (by decide) (x_mv (v := (.int .i64 (i2 + 1))) rfl) ?_)
      refine WL_nil ?_
      refine ⟨_, ?_, f2, i2 + 1, _, _, (updL_eq _ _ (by exact ⟨rfl, rfl, rfl, rfl, rfl, rfl, trivial⟩)).symm, S, (by omega), (by omega), ((nset_length _ _ _).trans hv_), hF2, rfl⟩
      exact Nat.lt_succ_self f2
    · show WC Try.prog 73 _ _ _ _
      have hc2_ := of_decide_eq_false hc2
      obtain rfl : f2 = 0 := by omega
      have hE : v = wordsIF s i 4 0 ww := (show wordsIF s i 0 i2 v = v from rfl).symm.trans hF2
      subst hE
      refine WC_exit ?_
      show WC Try.prog 73 _ _ _ _
      refine WC_region ?_
      refine WL_cons (WO_val (v := (.int .i64 (i + 1))) (on_none rfl) rfl (by decide) (x_add (a := i) (b := 1) rfl rfl (wi64 (by omega))) ?_)
      refine WL_cons (WO_val (v := (.int .i64 (i + 1))) (on_none rfl) rfl (by decide) (x_mv (v := (.int .i64 (i + 1))) rfl) ?_)
      refine WL_nil ?_
      refine ⟨_, ?_, f, i + 1, _, _, (updL_eq _ _ (by exact ⟨rfl, rfl, rfl, rfl, trivial⟩)).symm, S, (by omega), (by omega), ((wordsIF_length _ _ _ _ _).trans hw), hF, rfl⟩
      exact Nat.lt_succ_self f
  · show WC Try.prog 73 _ _ _ _
    have hc1_ := of_decide_eq_false hc1
    obtain rfl : f = 0 := by omega
    have hE : ww = wordsOF s 16 0 (List.replicate 64 0) := (show wordsOF s 0 i ww = ww from rfl).symm.trans hF
    clear hF
    refine WC_exit ?_
    show WC Try.prog 73 _ _ _ _
    refine WC_seq ?_
    refine WC_seq ?_
    refine WC_region ?_
    refine WL_cons (WO_val (v := (.int .i64 16)) (on_none rfl) rfl (by decide) (x_as (v := (.int .i64 16)) rfl) ?_)
    refine WL_nil ?_
    show WC Try.prog 73 _ _ _ _
    refine WC_block ?_
    refine WC_loop (fun kq e' w' => ∃ (f3 : Nat) (i3 : Int) (v : List Int) (eb : Env), e' = updL eb [(2, (.pointer (some ⟨g1, 0, none⟩))), (3, (.pointer (some ⟨g2, 0, none⟩))), (6, (.int .i64 i3))] ∧ SL w [blk g2 60 (uv .u32 v), blk g1 60 (uv .u32 (List.replicate 64 0))] w' ∧ (i3 + (f3 : Int) = 64) ∧ (16 ≤ i3) ∧ (v.length = 64) ∧ (wordsF  f3 i3 (v) = wordsF  48 16 (ww)) ∧ f3 = kq) (k := 48) ⟨48, 16, ww, _, (updL_eq _ _ (by exact ⟨rfl, rfl, rfl, trivial⟩)).symm, S, (by omega), (by omega), hw, rfl, rfl⟩ ?_
    clear S
    rintro k3 e3 wl3 ⟨f3, i3, v, eb, rfl, S, hif3, hi03, hv_, hF3, rfl⟩
    show WC Try.prog 73 _ _ _ _
    refine WC_seq ?_
    refine WC_seq ?_
    refine WC_region ?_
    refine WL_cons (WO_val (v := (.int .i64 i3)) (on_none rfl) rfl (by decide) (x_mv (v := (.int .i64 i3)) rfl) ?_)
    refine WL_cons (WO_val (v := (.bool (decide (i3 < 64)))) (on_none rfl) rfl (by decide) (x_lss (a := i3) (b := 64) rfl rfl) ?_)
    refine WL_nil ?_
    show WC Try.prog 73 _ _ _ _
    refine WC_cond (t := decide (i3 < 64)) rfl (fun hc3 => ?_) (fun hc3 => ?_)
    · show WC Try.prog 73 _ _ _ _
      have hc3_ := of_decide_eq_true hc3
      obtain ⟨f3, rfl⟩ : ∃ m, f3 = m + 1 := ⟨f3 - 1, by omega⟩
      refine WC_skip ?_
      show WC Try.prog 73 _ _ _ _
      refine WC_seq ?_
      refine WC_block ?_
      refine WC_seq ?_
      refine WC_draw (S := fun wx => wx.heap[g2]? = some (.cells (uv .u32 v) 60 (0, 0)) ∧ True) (Z := []) rfl ?_
      replace S := S.drew
      have hS : (World.drew wl3).heap[g2]? = some (.cells (uv .u32 v) 60 (0, 0)) ∧ True := ⟨(S.blk_get (.here _)), trivial⟩
      show WD Try.prog 73 _ _ _ _ 10 [] _ _
      refine WD_look (v := (.int .i64 i3)) (i := 0) rfl (by kernel_rfl) rfl (by decide) (on_none rfl) (fun wx hs => (x_mv (v := (.int .i64 i3)) rfl)) hS ?_
      show WD Try.prog 73 _ _ _ _ 9 _ _ _
      refine WD_look (v := (.int .i64 (i3 - 15))) (i := 1) rfl (by kernel_rfl) rfl (by decide) (on_none rfl) (fun wx hs => (x_sub (a := i3) (b := 15) rfl rfl (wi64 (by omega)))) hS ?_
      show WD Try.prog 73 _ _ _ _ 8 _ _ _
      refine WD_look (v := (.pointer (some ⟨g2, (i3 - 15 : Int).toNat * 1, none⟩))) (i := 2) rfl (by kernel_rfl) rfl (by decide) (on_none rfl) (fun wx hs => (x_index_row (i := i3 - 15) rfl rfl Try.underlying60 ti57.sz (by omega) (by omega))) hS ?_
      show WD Try.prog 73 _ _ _ _ 7 _ _ _
      refine WD_look (v := (.int .u32 (nth v (i3 - 15)))) (i := 3) rfl (by kernel_rfl) rfl (by decide) (on_none rfl) (fun wx hs => (x_load_cell (v := .int .u32 (nth v (i3 - 15))) rfl (cell_row (hs.1) (uv_nth (by omega) (by omega))) Try.underlying57 rfl)) hS ?_
      show WD Try.prog 73 _ _ _ _ 6 _ _ _
      refine WD_look (v := (.int .i64 i3)) (i := 4) rfl (by kernel_rfl) rfl (by decide) (on_none rfl) (fun wx hs => (x_mv (v := (.int .i64 i3)) rfl)) hS ?_
      show WD Try.prog 73 _ _ _ _ 5 _ _ _
      refine WD_look (v := (.int .i64 (i3 - 2))) (i := 5) rfl (by kernel_rfl) rfl (by decide) (on_none rfl) (fun wx hs => (x_sub (a := i3) (b := 2) rfl rfl (wi64 (by omega)))) hS ?_
      show WD Try.prog 73 _ _ _ _ 4 _ _ _
      refine WD_look (v := (.pointer (some ⟨g2, (i3 - 2 : Int).toNat * 1, none⟩))) (i := 6) rfl (by kernel_rfl) rfl (by decide) (on_none rfl) (fun wx hs => (x_index_row (i := i3 - 2) rfl rfl Try.underlying60 ti57.sz (by omega) (by omega))) hS ?_
      show WD Try.prog 73 _ _ _ _ 3 _ _ _
      refine WD_look (v := (.int .u32 (nth v (i3 - 2)))) (i := 7) rfl (by kernel_rfl) rfl (by decide) (on_none rfl) (fun wx hs => (x_load_cell (v := .int .u32 (nth v (i3 - 2))) rfl (cell_row (hs.1) (uv_nth (by omega) (by omega))) Try.underlying57 rfl)) hS ?_
      show WD Try.prog 73 _ _ _ _ 2 _ _ _
      refine WD_look (v := (.int .u32 (nth v (i3 - 15)))) (i := 8) rfl (by kernel_rfl) rfl (by decide) (on_none rfl) (fun wx hs => (x_as (v := (.int .u32 (nth v (i3 - 15)))) rfl)) hS ?_
      show WD Try.prog 73 _ _ _ _ 1 _ _ _
      refine WD_look (v := (.int .u32 (nth v (i3 - 2)))) (i := 9) rfl (by kernel_rfl) rfl (by decide) (on_none rfl) (fun wx hs => (x_as (v := (.int .u32 (nth v (i3 - 2)))) rfl)) hS ?_
      show WD Try.prog 73 _ _ _ _ 0 _ _ _
      refine WD_done (by kernel_rfl) ?_
      clear hS
      show WC Try.prog 73 _ _ _ _
      refine WC_draw (S := fun wx => wx.heap[g2]? = some (.cells (uv .u32 v) 60 (0, 0)) ∧ True) (Z := [29]) rfl ?_
      replace S := S.drew
      have hS : (World.drew (World.drew wl3)).heap[g2]? = some (.cells (uv .u32 v) 60 (0, 0)) ∧ True := ⟨(S.blk_get (.here _)), trivial⟩
      show WD Try.prog 73 _ _ _ _ 30 [] _ _
      refine WD_look (v := (.int .i64 i3)) (i := 0) rfl (by kernel_rfl) rfl (by decide) (on_none rfl) (fun wx hs => (x_mv (v := (.int .i64 i3)) rfl)) hS ?_
      show WD Try.prog 73 _ _ _ _ 29 _ _ _
      refine WD_look (v := (.int .i64 i3)) (i := 1) rfl (by kernel_rfl) rfl (by decide) (on_none rfl) (fun wx hs => (x_mv (v := (.int .i64 i3)) rfl)) hS ?_
      show WD Try.prog 73 _ _ _ _ 28 _ _ _
      refine WD_look (v := (.int .i64 (i3 - 16))) (i := 2) rfl (by kernel_rfl) rfl (by decide) (on_none rfl) (fun wx hs => (x_sub (a := i3) (b := 16) rfl rfl (wi64 (by omega)))) hS ?_
      show WD Try.prog 73 _ _ _ _ 27 _ _ _
      refine WD_look (v := (.pointer (some ⟨g2, (i3 - 16 : Int).toNat * 1, none⟩))) (i := 3) rfl (by kernel_rfl) rfl (by decide) (on_none rfl) (fun wx hs => (x_index_row (i := i3 - 16) rfl rfl Try.underlying60 ti57.sz (by omega) (by omega))) hS ?_
      show WD Try.prog 73 _ _ _ _ 26 _ _ _
      refine WD_look (v := (.int .u32 (nth v (i3 - 16)))) (i := 4) rfl (by kernel_rfl) rfl (by decide) (on_none rfl) (fun wx hs => (x_load_cell (v := .int .u32 (nth v (i3 - 16))) rfl (cell_row (hs.1) (uv_nth (by omega) (by omega))) Try.underlying57 rfl)) hS ?_
      show WD Try.prog 73 _ _ _ _ 25 _ _ _
      refine WD_look (v := (.int .i64 i3)) (i := 5) rfl (by kernel_rfl) rfl (by decide) (on_none rfl) (fun wx hs => (x_mv (v := (.int .i64 i3)) rfl)) hS ?_
      show WD Try.prog 73 _ _ _ _ 24 _ _ _
      refine WD_look (v := (.int .i64 (i3 - 7))) (i := 6) rfl (by kernel_rfl) rfl (by decide) (on_none rfl) (fun wx hs => (x_sub (a := i3) (b := 7) rfl rfl (wi64 (by omega)))) hS ?_
      show WD Try.prog 73 _ _ _ _ 23 _ _ _
      refine WD_look (v := (.pointer (some ⟨g2, (i3 - 7 : Int).toNat * 1, none⟩))) (i := 7) rfl (by kernel_rfl) rfl (by decide) (on_none rfl) (fun wx hs => (x_index_row (i := i3 - 7) rfl rfl Try.underlying60 ti57.sz (by omega) (by omega))) hS ?_
      show WD Try.prog 73 _ _ _ _ 22 _ _ _
      refine WD_look (v := (.int .u32 (nth v (i3 - 7)))) (i := 8) rfl (by kernel_rfl) rfl (by decide) (on_none rfl) (fun wx hs => (x_load_cell (v := .int .u32 (nth v (i3 - 7))) rfl (cell_row (hs.1) (uv_nth (by omega) (by omega))) Try.underlying57 rfl)) hS ?_
      show WD Try.prog 73 _ _ _ _ 21 _ _ _
      refine WD_look (v := (.int .u32 (IntKind.u32.wrap ((nth v (i3 - 16)) + (nth v (i3 - 7)))))) (i := 9) rfl (by kernel_rfl) rfl (by decide) (on_none rfl) (fun wx hs => (x_addw rfl rfl)) hS ?_
      show WD Try.prog 73 _ _ _ _ 20 _ _ _
      refine WD_look (v := (.int .u32 (nth v (i3 - 15)))) (i := 10) rfl (by kernel_rfl) rfl (by decide) (on_none rfl) (fun wx hs => (x_mv (v := (.int .u32 (nth v (i3 - 15)))) rfl)) hS ?_
      show WD Try.prog 73 _ _ _ _ 19 _ _ _
      refine WD_look (v := (.int .u32 (nth v (i3 - 15)))) (i := 12) rfl (by kernel_rfl) rfl (by decide) (on_none rfl) (fun wx hs => (x_mv (v := (.int .u32 (nth v (i3 - 15)))) rfl)) hS ?_
      show WD Try.prog 73 _ _ _ _ 18 _ _ _
      refine WD_look (v := (.int .u32 (nth v (i3 - 15)))) (i := 15) rfl (by kernel_rfl) rfl (by decide) (on_none rfl) (fun wx hs => (x_mv (v := (.int .u32 (nth v (i3 - 15)))) rfl)) hS ?_
      show WD Try.prog 73 _ _ _ _ 17 _ _ _
      refine WD_look (v := (.int .u32 (Int.fdiv (nth v (i3 - 15)) (2 ^ (min (3 : Int).toNat IntKind.u32.bits))))) (i := 16) rfl (by kernel_rfl) rfl (by decide) (on_none rfl) (fun wx hs => (x_shr (a := nth v (i3 - 15)) (b := 3) rfl rfl (by omega))) hS ?_
      show WD Try.prog 73 _ _ _ _ 16 _ _ _
      refine WD_look (v := (.int .u32 (nth v (i3 - 2)))) (i := 19) rfl (by kernel_rfl) rfl (by decide) (on_none rfl) (fun wx hs => (x_mv (v := (.int .u32 (nth v (i3 - 2)))) rfl)) hS ?_
      show WD Try.prog 73 _ _ _ _ 15 _ _ _
      refine WD_look (v := (.int .u32 (nth v (i3 - 2)))) (i := 21) rfl (by kernel_rfl) rfl (by decide) (on_none rfl) (fun wx hs => (x_mv (v := (.int .u32 (nth v (i3 - 2)))) rfl)) hS ?_
      show WD Try.prog 73 _ _ _ _ 14 _ _ _
      refine WD_look (v := (.int .u32 (nth v (i3 - 2)))) (i := 24) rfl (by kernel_rfl) rfl (by decide) (on_none rfl) (fun wx hs => (x_mv (v := (.int .u32 (nth v (i3 - 2)))) rfl)) hS ?_
      show WD Try.prog 73 _ _ _ _ 13 _ _ _
      refine WD_look (v := (.int .u32 (Int.fdiv (nth v (i3 - 2)) (2 ^ (min (10 : Int).toNat IntKind.u32.bits))))) (i := 25) rfl (by kernel_rfl) rfl (by decide) (on_none rfl) (fun wx hs => (x_shr (a := nth v (i3 - 2)) (b := 10) rfl rfl (by omega))) hS ?_
      show WD Try.prog 73 _ _ _ _ 12 _ _ _
      refine WD_one (i := 11) rfl (by kernel_rfl) (WO_call (on_none rfl) rfl (by decide) (x_call2 Try.func40 rfl rfl rfl rfl rfl) (turn_c (nth v (i3 - 15)) 7 (by decide) (by decide) _) ?_)
      rintro _ wc1 ⟨rfl, hb⟩
      refine ⟨_, rfl, ?_⟩
      replace S := S.keep hb
      clear hb
      replace hS : wc1.heap[g2]? = some (.cells (uv .u32 v) 60 (0, 0)) ∧ True := ⟨(S.blk_get (.here _)), trivial⟩
      refine ⟨.inl hS, ?_⟩
      refine WD_one (i := 13) rfl (by kernel_rfl) (WO_call (on_none rfl) rfl (by decide) (x_call2 Try.func40 rfl rfl rfl rfl rfl) (turn_c (nth v (i3 - 15)) 18 (by decide) (by decide) _) ?_)
      rintro _ wc2 ⟨rfl, hb⟩
      refine ⟨_, rfl, ?_⟩
      replace S := S.keep hb
      clear hb
      replace hS : wc2.heap[g2]? = some (.cells (uv .u32 v) 60 (0, 0)) ∧ True := ⟨(S.blk_get (.here _)), trivial⟩
      refine ⟨.inl hS, ?_⟩
      refine WD_look (v := (.int .u32 (bitop .xor .u32 (rotl (nth v (i3 - 15)) (-7)) (rotl (nth v (i3 - 15)) (-18))))) (i := 14) rfl (by kernel_rfl) rfl (by decide) (on_none rfl) (fun wx hs => (x_xor (a := rotl (nth v (i3 - 15)) (-7)) (b := rotl (nth v (i3 - 15)) (-18)) rfl rfl)) hS ?_
      show WD Try.prog 73 _ _ _ _ 9 _ _ _
      refine WD_look (v := (.int .u32 (bitop .xor .u32 (bitop .xor .u32 (rotl (nth v (i3 - 15)) (-7)) (rotl (nth v (i3 - 15)) (-18))) (Int.fdiv (nth v (i3 - 15)) (2 ^ (min (3 : Int).toNat IntKind.u32.bits)))))) (i := 17) rfl (by kernel_rfl) rfl (by decide) (on_none rfl) (fun wx hs => (x_xor (a := bitop .xor .u32 (rotl (nth v (i3 - 15)) (-7)) (rotl (nth v (i3 - 15)) (-18))) (b := Int.fdiv (nth v (i3 - 15)) (2 ^ (min (3 : Int).toNat IntKind.u32.bits))) rfl rfl)) hS ?_
      show WD Try.prog 73 _ _ _ _ 8 _ _ _
      refine WD_look (v := (.int .u32 (IntKind.u32.wrap ((IntKind.u32.wrap ((nth v (i3 - 16)) + (nth v (i3 - 7)))) + (bitop .xor .u32 (bitop .xor .u32 (rotl (nth v (i3 - 15)) (-7)) (rotl (nth v (i3 - 15)) (-18))) (Int.fdiv (nth v (i3 - 15)) (2 ^ (min (3 : Int).toNat IntKind.u32.bits)))))))) (i := 18) rfl (by kernel_rfl) rfl (by decide) (on_none rfl) (fun wx hs => (x_addw rfl rfl)) hS ?_
      show WD Try.prog 73 _ _ _ _ 7 _ _ _
      refine WD_one (i := 20) rfl (by kernel_rfl) (WO_call (on_none rfl) rfl (by decide) (x_call2 Try.func40 rfl rfl rfl rfl rfl) (turn_c (nth v (i3 - 2)) 17 (by decide) (by decide) _) ?_)
      rintro _ wc3 ⟨rfl, hb⟩
      refine ⟨_, rfl, ?_⟩
      replace S := S.keep hb
      clear hb
      replace hS : wc3.heap[g2]? = some (.cells (uv .u32 v) 60 (0, 0)) ∧ True := ⟨(S.blk_get (.here _)), trivial⟩
      refine ⟨.inl hS, ?_⟩
      refine WD_one (i := 22) rfl (by kernel_rfl) (WO_call (on_none rfl) rfl (by decide) (x_call2 Try.func40 rfl rfl rfl rfl rfl) (turn_c (nth v (i3 - 2)) 19 (by decide) (by decide) _) ?_)
      rintro _ wc4 ⟨rfl, hb⟩
      refine ⟨_, rfl, ?_⟩
      replace S := S.keep hb
      clear hb
      replace hS : wc4.heap[g2]? = some (.cells (uv .u32 v) 60 (0, 0)) ∧ True := ⟨(S.blk_get (.here _)), trivial⟩
      refine ⟨.inl hS, ?_⟩
      refine WD_look (v := (.int .u32 (bitop .xor .u32 (rotl (nth v (i3 - 2)) (-17)) (rotl (nth v (i3 - 2)) (-19))))) (i := 23) rfl (by kernel_rfl) rfl (by decide) (on_none rfl) (fun wx hs => (x_xor (a := rotl (nth v (i3 - 2)) (-17)) (b := rotl (nth v (i3 - 2)) (-19)) rfl rfl)) hS ?_
      show WD Try.prog 73 _ _ _ _ 4 _ _ _
      refine WD_look (v := (.int .u32 (bitop .xor .u32 (bitop .xor .u32 (rotl (nth v (i3 - 2)) (-17)) (rotl (nth v (i3 - 2)) (-19))) (Int.fdiv (nth v (i3 - 2)) (2 ^ (min (10 : Int).toNat IntKind.u32.bits)))))) (i := 26) rfl (by kernel_rfl) rfl (by decide) (on_none rfl) (fun wx hs => (x_xor (a := bitop .xor .u32 (rotl (nth v (i3 - 2)) (-17)) (rotl (nth v (i3 - 2)) (-19))) (b := Int.fdiv (nth v (i3 - 2)) (2 ^ (min (10 : Int).toNat IntKind.u32.bits))) rfl rfl)) hS ?_
      show WD Try.prog 73 _ _ _ _ 3 _ _ _
      refine WD_look (v := (.int .u32 (IntKind.u32.wrap ((IntKind.u32.wrap ((IntKind.u32.wrap ((nth v (i3 - 16)) + (nth v (i3 - 7)))) + (bitop .xor .u32 (bitop .xor .u32 (rotl (nth v (i3 - 15)) (-7)) (rotl (nth v (i3 - 15)) (-18))) (Int.fdiv (nth v (i3 - 15)) (2 ^ (min (3 : Int).toNat IntKind.u32.bits)))))) + (bitop .xor .u32 (bitop .xor .u32 (rotl (nth v (i3 - 2)) (-17)) (rotl (nth v (i3 - 2)) (-19))) (Int.fdiv (nth v (i3 - 2)) (2 ^ (min (10 : Int).toNat IntKind.u32.bits)))))))) (i := 27) rfl (by kernel_rfl) rfl (by decide) (on_none rfl) (fun wx hs => (x_addw rfl rfl)) hS ?_
      show WD Try.prog 73 _ _ _ _ 2 _ _ _
      refine WD_look (v := (.pointer (some ⟨g2, (i3 : Int).toNat * 1, none⟩))) (i := 28) rfl (by kernel_rfl) rfl (by decide) (on_none rfl) (fun wx hs => (x_index_row (i := i3) rfl rfl Try.underlying60 ti57.sz (by omega) (by omega))) hS ?_
      show WD Try.prog 73 _ _ _ _ 1 _ _ _
      refine WD_one (i := 29) rfl (by kernel_rfl) (WO_store (v := (.int .u32 (IntKind.u32.wrap ((IntKind.u32.wrap ((IntKind.u32.wrap ((nth v (i3 - 16)) + (nth v (i3 - 7)))) + (bitop .xor .u32 (bitop .xor .u32 (rotl (nth v (i3 - 15)) (-7)) (rotl (nth v (i3 - 15)) (-18))) (Int.fdiv (nth v (i3 - 15)) (2 ^ (min (3 : Int).toNat IntKind.u32.bits)))))) + (bitop .xor .u32 (bitop .xor .u32 (rotl (nth v (i3 - 2)) (-17)) (rotl (nth v (i3 - 2)) (-19))) (Int.fdiv (nth v (i3 - 2)) (2 ^ (min (10 : Int).toNat IntKind.u32.bits)))))))) (row := uv .u32 v) (row' := uv .u32 (nset v i3 (IntKind.u32.wrap ((IntKind.u32.wrap ((IntKind.u32.wrap ((nth v (i3 - 16)) + (nth v (i3 - 7)))) + (bitop .xor .u32 (bitop .xor .u32 (rotl (nth v (i3 - 15)) (-7)) (rotl (nth v (i3 - 15)) (-18))) (Int.fdiv (nth v (i3 - 15)) (2 ^ (min (3 : Int).toNat IntKind.u32.bits)))))) + (bitop .xor .u32 (bitop .xor .u32 (rotl (nth v (i3 - 2)) (-17)) (rotl (nth v (i3 - 2)) (-19))) (Int.fdiv (nth v (i3 - 2)) (2 ^ (min (10 : Int).toNat IntKind.u32.bits)))))))) S (on_none rfl) rfl rfl (.here _) ti57.sz rfl (by rw [uv_size]; omega) (by simp [Value.cells, Value.oneCell']) (splice_uv (by omega) (by omega)) ?_)
      intro ws2 S
      refine ⟨.inr rfl, ?_⟩
      refine WD_done (by kernel_rfl) ?_
      clear hS
      show WC Try.prog 73 _ _ _ _
      refine WC_region ?_
      refine WL_cons (WO_val (v := (.int .i64 i3)) (on_none rfl) rfl (by decide) (x_mv (v := (.int .i64 i3)) rfl) ?_)
      refine WL_cons (WO_val (v := (.int .i64 (i3 + 1))) (on_none rfl) rfl (by decide) (x_add (a := i3) (b := 1) rfl rfl (wi64 (by omega))) ?_)
      refine WL_cons (WO_val (v := (.int .i64 (i3 + 1))) (on_none rfl) rfl (by decide) (x_as (v := (.int .i64 (i3 + 1))) rfl) ?_)
      refine WL_nil ?_
      refine ⟨_, ?_, f3, i3 + 1, _, _, (updL_eq _ _ (by exact ⟨rfl, rfl, rfl, trivial⟩)).symm, S, (by omega), (by omega), ((nset_length _ _ _).trans hv_), hF3, rfl⟩
      exact Nat.lt_succ_self f3
    · show WC Try.prog 73 _ _ _ _
      have hc3_ := of_decide_eq_false hc3
      obtain rfl : f3 = 0 := by omega
      refine WC_exit ?_
      show WC Try.prog 73 _ _ _ _
      refine WC_seq ?_
      refine WC_region ?_
      refine WL_cons (WO_val (v := (.agg (uv .u32 v))) (on_none rfl) rfl (by decide) (x_load_row rfl (S.blk_get (.here _)) Try.underlying60 rfl ti60.sz ((uv_size _ _).trans (by first | assumption | simp))) ?_)
      refine WL_cons (WO_store (v := (.agg (uv .u32 v))) (row := uv .u32 (List.replicate 64 0)) (row' := uv .u32 v) S (on_none rfl) rfl rfl (.there _ (.here _)) ti60.sz ((uv_size _ _).trans (by first | assumption | simp)) (by rw [show (uv .u32 (List.replicate 64 0)).size = 64 from ((uv_size _ _).trans (by first | assumption | simp))]; exact Nat.le_refl _) (uv_one _ _) (splice_all _ _ ((((uv_size _ _).trans (by first | assumption | simp))).trans (((uv_size _ _).trans (by first | assumption | simp))).symm)) ?_)
      intro ws3 S
      refine WL_nil ?_
      show WC Try.prog 73 _ _ _ _
      refine WC_ret ?_
      show retQ Try.prog Try.f33 _ .ret _ _
      exact retc (fn := Try.f33) S rfl rfl (.there _ (.here _)) Try.underlying60 rfl (by rw [((uv_size _ _).trans hv_)]; exact ti60.sz) ⟨by rw [← hE, ← (show wordsF 0 i3 v = v from rfl).symm.trans hF3], S.below⟩
end Go.Proofs.Ytjlbkbfnmcppeaa.Sl
