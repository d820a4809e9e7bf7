/- FnBows: the calls of the law, by what they answer on drawn bows. -/
import Derived.Test.YtmfadjdpbobfhaaDoorBowF
import Derived.Test.YtmfadjdpbobfhaaDoorR8
import Derived.Test.YtmfadjdpbobfhaaDoorReadPartI
namespace Go.Proofs.YtmfadjdpbobfhaaDoor
open Go.RowKit
set_option linter.unusedVariables false

theorem partT_size {x : DPart} (h : PartS x) : (partT x.fId x.fAt x.fMass).size ≤ 1000 := by
  obtain ⟨h1, h2, h3, h4, h5, h6⟩ := h
  have s1 : (dec x.fMass).size ≤ 20 := dec_size (by omega) (by omega)
  have s2 : (dec x.fAt).size ≤ 20 := dec_size (by omega) (by omega)
  unfold partT
  simp only [ByteArray.size_append]
  have e1 : (⟨#[32]⟩ : ByteArray).size = 1 := rfl
  have e2 : (⟨#[64]⟩ : ByteArray).size = 1 := rfl
  omega
theorem fPart_text {x : DPart} (h : PartS x) : fPart (partT x.fId x.fAt x.fMass).data.toList = some (x.fId, x.fAt, x.fMass) := by
  have hp := h.valid
  obtain ⟨h1, h2, h3, h4, h5, h6⟩ := h
  have hp2 := hp
  have f1 : (32 : UInt8) ∉ x.fId.data.toList := name_free h1 (by decide) (by decide)
  have f2 : (32 : UInt8) ∉ Lib.itoa x.fMass ++ 64 :: Lib.itoa x.fAt := by
    intro hm
    rcases List.mem_append.1 hm with hm | hm
    · exact dg_free (n := x.fMass) (by decide) (by decide) hm
    · rcases List.mem_cons.1 hm with hm | hm
      · exact absurd hm (by decide)
      · exact dg_free (n := x.fAt) (by decide) (by decide) hm
  have f3 : (64 : UInt8) ∉ Lib.itoa x.fMass := dg_free (by decide) (by decide)
  have f4 : (64 : UInt8) ∉ Lib.itoa x.fAt := dg_free (by decide) (by decide)
  have n1 : numO (Lib.itoa x.fMass) = some x.fMass := numO_itoa (by omega)
  have n2 : numO (Lib.itoa x.fAt) = some x.fAt := numO_itoa (by omega)
  unfold fPart
  rw [partT_list, two_split f1 f2]
  simp only
  rw [two_split f3 f4]
  simp only [n1, n2, tB_data, hp, if_true]
theorem text_n (x : DPart) (s : ByteArray) (w : World) (hx : PartS x) (hR : RdW w) (hs : partT x.fId x.fAt x.fMass = s) :
    Calls Tryd.prog 39 #[.agg #[.string x.fId, .int .i64 x.fAt, .int .i64 x.fMass]] w fun e w' => e = .returned (.string s) ∧ Below w.heap.size w w' := by
  subst hs
  refine (PartText_ok x.fId x.fAt x.fMass w (by have := hx.size; unfold maxLen; omega) hR.2.2).mono ?_
  rintro e w' ⟨rfl, hb⟩
  exact ⟨by rw [hx.valid, orNo, if_pos rfl], hb⟩
theorem read_n (x : DPart) (s : ByteArray) (w : World) (hx : PartS x) (hR : RdW w) (hs : partT x.fId x.fAt x.fMass = s) :
    Calls Tryd.prog 22 #[.string s] w fun e w' => e = .returned (.tuple #[.agg #[.string x.fId, .int .i64 x.fAt, .int .i64 x.fMass], .bool true]) ∧ Below w.heap.size w w' := by
  subst hs
  refine (ReadPart_ok _ w (by have := partT_size hx; omega) hR).mono ?_
  rintro e w' ⟨rfl, hb⟩
  exact ⟨by rw [fPart_text hx]; rfl, hb⟩
theorem abs_n (a r : Int) (w : World) (h0 : -1000000000000 ≤ a) (h1 : a ≤ 1000000000000) (hr : max a (-a) = r) :
    Calls Tryd.prog 40 #[.int .i64 a] w fun e w' => e = .returned (.int .i64 r) ∧ w = w' := by
  subst hr
  exact r8Abs_ok a w h0 h1
theorem Balance_n (A : Option Addr) (c n : Nat) (xs : List DPart) (w : World) (hA : RowsAt w 3 A (xs.map DPart.cells)) (hX : DrwB xs) (hn : xs.length = n) (M P b : Int) (hM : massL xs = M) (hP : momL xs = P) (hb : divR P M = b) :
    Calls Tryd.prog 36 #[.slice A n c] w fun e w' => e = .returned (.tuple #[.int .i64 b, .int .i64 0]) ∧ Below w.heap.size w w' := by
  subst hb
  exact BalanceOf_ok A c n xs w hA hX hn M P hM hP
theorem Inertia_n (A : Option Addr) (c n : Nat) (xs : List DPart) (w : World) (hA : RowsAt w 3 A (xs.map DPart.cells)) (hX : DrwB xs) (hn : xs.length = n) (a s r : Int) (ha : 0 ≤ a ∧ a ≤ 800) (hs : sumB (inerP a) xs n = s) (hr : s / 1000 = r) :
    Calls Tryd.prog 46 #[.slice A n c, .int .i64 a] w fun e w' => e = .returned (.tuple #[.int .i64 r, .int .i64 0]) ∧ Below w.heap.size w w' := by
  subst hr
  exact InertiaOf_ok A c n xs w hA hX hn a s ha hs
def RetWn (w : World) (n : Nat) (e : Ending) (w' : World) : Prop := ∃ (A' : Option Addr) (m c' : Nat) (d : Int), e = .returned (.tuple #[.slice A' m c', .int .i64 d]) ∧ ((n = 1 ∧ d = 6) ∨ (1 < n ∧ d = 0 ∧ m = n - 1)) ∧ Below w.heap.size w w'
theorem Without_n (A : Option Addr) (cc n : Nat) (xs : List DPart) (w : World) (hA : RowsAt w 3 A (xs.map DPart.cells)) (hX : DrwB xs) (hn : xs.length = n) (hcap : n ≤ cc ∧ cc ≤ maxLen) (k : Nat) (x : DPart) (hk : xs[k]? = some x) :
    Calls Tryd.prog 45 #[.slice A n cc, .string x.fId] w (RetWn w n) := by
  refine (WithoutPart_ok A cc n xs w hA hX hn hcap.1 (by have := hcap.2; unfold maxLen at this; omega) k x hk).mono ?_
  rintro e w' ⟨h, hb⟩
  rcases h with ⟨h1, h2⟩ | ⟨h1, A', c', h2⟩
  · exact ⟨_, _, _, _, h2, .inl ⟨h1, rfl⟩, hb⟩
  · exact ⟨_, _, _, _, h2, .inr ⟨h1, rfl, rfl⟩, hb⟩
def RetCam (w : World) (hs : List Int) (n st : Nat) (e : Ending) (w' : World) : Prop := ∃ (b : Nat) (dv : Int), e = .returned (.tuple #[.int .i64 (b : Int), .int .i64 dv, .int .i64 0]) ∧ b < n ∧ (∀ j : Nat, j < n → depthL hs j ≤ depthL hs b) ∧ (0 ≤ dv ∧ dv ≤ 100000) ∧ (-(st : Int) ≤ 2 * (dv * (st : Int) - depthL hs b) ∧ 2 * (dv * (st : Int) - depthL hs b) ≤ (st : Int)) ∧ Below w.heap.size w w'
theorem depth_bd {hs : List Int} (h : HgtB hs) {st i : Nat} (hn : hs.length = st + 1) (hi : i ≤ st) : -10000 ≤ depthL hs i ∧ depthL hs i ≤ 10000 := by
  have h10 := h.n10
  rw [depth_st hn]
  have z0 := hAt_bd h 0
  have zs := hAt_bd h st
  have zi := hAt_bd h i
  have e : hAt hs 0 * (st : Int) + (hAt hs st - hAt hs 0) * (i : Int) - hAt hs i * (st : Int) = (hAt hs 0 - hAt hs i) * (st : Int) + (hAt hs st - hAt hs 0) * (i : Int) := by rw [Int.sub_mul (hAt hs 0)]; omega
  rw [e]
  have m : ∀ a b : Int, (-200 ≤ a ∧ a ≤ 200) → (0 ≤ b ∧ b ≤ 9) → -1800 ≤ a * b ∧ a * b ≤ 1800 := fun a b ha hb => by
    have h1 : a.natAbs ≤ 200 := by omega
    have h2 : b.natAbs ≤ 9 := by omega
    have h3 : (a * b).natAbs ≤ 200 * 9 := by rw [Int.natAbs_mul]; exact Nat.mul_le_mul h1 h2
    omega
  have m1 := m (hAt hs 0 - hAt hs i) st (by omega) (by omega)
  have m2 := m (hAt hs st - hAt hs 0) i (by omega) (by omega)
  omega
theorem Camber_n (A : Option Addr) (c n : Nat) (hs : List Int) (w : World) (hA : IntsAt w A hs) (hX : HgtB hs) (hn : hs.length = n) (st : Nat) (hst : n = st + 1) :
    Calls Tryd.prog 47 #[.slice A n c] w (RetCam w hs n st) := by
  have hn3 := heights_n hX hn
  refine (CamberOf_ok A c n hs w hA hX hn st hst).mono ?_
  rintro e w' ⟨⟨b, he, hb, hm⟩, hbel⟩
  have h0 := hm 0 (by omega)
  rw [depth_zero] at h0
  have hbd := depth_bd hX (st := st) (i := b) (by rw [hn, hst]) (by omega)
  have hne := divR_near (a := depthL hs b) (b := (st : Int)) h0 (by omega)
  refine ⟨b, _, he, hb, hm, ?_, hne, hbel⟩
  unfold divR
  rw [if_neg (by omega)]
  have h1 : 0 ≤ (2 * depthL hs b + (st : Int)) / (2 * (st : Int)) := Int.ediv_nonneg (by omega) (by omega)
  have h2 : (2 * depthL hs b + (st : Int)) / (2 * (st : Int)) ≤ 2 * depthL hs b + (st : Int) := Int.ediv_le_self _ (by omega)
  omega
/-- how deep, as the law writes it -/
def ownE (hs : List Int) (st i : Nat) : Int := hAt hs 0 * ((st : Int) - (i : Int)) + hAt hs st * (i : Int) - (st : Int) * hAt hs i
theorem ownE_eq {hs : List Int} {st : Nat} (h : hs.length = st + 1) (i : Nat) : ownE hs st i = depthL hs i := by
  rw [← depth_law hs i]
  unfold ownE
  rw [h, show st + 1 - 1 = st by omega, show (((st + 1 : Nat) : Int) - 1) = (st : Int) by omega]
theorem PartAt.rows {w : World} {g : Nat} {xs : List DPart} {k : Nat} {x : DPart} (hA : RowsAt w 3 (some ⟨g, 0, none⟩) (xs.map DPart.cells)) (hx : xs[k]? = some x) : PartAt w g (k * 3) x := by
  obtain ⟨ab, ao, hae, hAt⟩ := PartAt.of_rows hA hx
  injection hae with hae
  injection hae with ha1 ha2
  subst ha1 ha2
  rw [Nat.zero_add] at hAt
  exact hAt
theorem r8At_one (A : Option Addr) (c n : Nat) (k : Int) (w : World) :
    Calls Tryd.prog 43 #[.slice A n c, .int .i64 k, .int .i64 1] w fun e w' => e = .returned (.int .i64 0) ∧ w = w' := by
  go_enter Tryd.func43, Tryd.ntmps43
  go_wp2_with fail
  go_ret
  exact ⟨rfl, rfl⟩
theorem r8At_n (A : Option Addr) (c : Nat) (ns : List Int) (k n : Nat) (k1 : Int) (hk1 : k1 = (k : Int)) (w : World) (hA : BytesAt w A ns) (hB : ByteIn ns) (hl : ns.length ≤ 1048576) (hn : 1 ≤ n ∧ n ≤ 60000) :
    Calls Tryd.prog 43 #[.slice A ns.length c, .int .i64 k1, .int .i64 (n : Int)] w fun e w' => (∃ j : Nat, e = .returned (.int .i64 (j : Int)) ∧ j < n) ∧ w = w' := by
  subst hk1
  by_cases h1 : n = 1
  · subst h1
    refine (r8At_one A c ns.length (k : Int) w).mono ?_
    rintro e w' ⟨rfl, rfl⟩
    exact ⟨⟨0, rfl, by omega⟩, rfl⟩
  · refine (r8At_ok A c ns k (n : Int) w hA hB hl (by omega) (by omega)).mono ?_
    rintro e w' ⟨⟨r, rfl, h0, h1⟩, rfl⟩
    exact ⟨⟨r.toNat, by rw [Int.toNat_of_nonneg h0], by omega⟩, rfl⟩
theorem hgt_own {w : World} {B g n c : Nat} {hs : List Int} (h : w.ownsRow B 2 1 (.slice (some ⟨g, 0, none⟩) n c) n (hs.map (Value.int .i64))) : IntsAt w (some ⟨g, 0, none⟩) hs := ints_own h

end Go.Proofs.YtmfadjdpbobfhaaDoor
