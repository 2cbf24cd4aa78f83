/- The law NumberGcd: a part. -/
import Derived.Test.YtbjgpbdkofadiaaGreatDoorLawB
import Derived.Test.YtbjgpbdkofadiaaGreatDoorLawG
namespace Go.Proofs.YtbjgpbdkofadiaaGreatDoor
set_option linter.unusedVariables false
set_option linter.unusedSimpArgs false
open Go.RowKit Go.Shelf Go.Proofs

set_option maxRecDepth 100000 in
set_option maxHeartbeats 8000000 in
theorem gcd_Bz (hsan : San) (a b c : ByteArray) (x y z : Int) (w : World) (ht : Tabs w) (ha : NumL a.data.toList x) (hb : NumL b.data.toList y) (hc : NumL c.data.toList z) (hg : (Int.gcd x y : Int) ≠ 0) (hy : y ≠ 0) (hz : z = 0) :
    Calls Tryz.prog 12 #[.string a, .string b, .string c] w fun e w' => e = .returned (.bool true) ∧ Below w.heap.size w w' := by
  have HT := Lib.hid ht
  have HA := Lib.hid ha
  have HBB := Lib.hid hb
  have HC := Lib.hid hc
  have HB : Hid (Below w.heap.size w w) := Below.refl _ _
  have HS : Hid (∀ w : World, Tabs w → Calls Tryz.prog 18 #[] w fun e w' => e = .returned (.bool true) ∧ Below w.heap.size w w') := hsan
  obtain ⟨G, hG⟩ : ∃ G : Int, (Int.gcd x y : Int) = G := ⟨_, rfl⟩
  obtain ⟨X, Y, hP⟩ := gcdP_ex x y
  have hgx : (Int.gcd x y : Int) ∣ x := Int.gcd_dvd_left ..
  have hgy : (Int.gcd x y : Int) ∣ y := Int.gcd_dvd_right ..
  rw [hG] at hP hg hgx hgy
  obtain ⟨f1, f2, f3⟩ := gcdP_fit hP ha.2 hb.2
  have hr0 : x.tmod G = 0 := Int.tmod_eq_zero_of_dvd hgx
  have hs0 : y.tmod G = 0 := Int.tmod_eq_zero_of_dvd hgy
  have HP := Lib.hid hP
  have HGN := Lib.hid hg
  have hz0 : txt 0 = ⟨#[48]⟩ := (num_txt (s := ⟨#[48]⟩) num_zero).1
  have Hr0 : Hid (txt (x.tmod G) = ⟨#[48]⟩) := by show _ = _; rw [hr0]; exact hz0
  have Hs0 : Hid (txt (y.tmod G) = ⟨#[48]⟩) := by show _ = _; rw [hs0]; exact hz0
  have zy := num_is_zero hb
  rw [decide_eq_false hy] at zy
  have zz := num_is_zero hc
  rw [decide_eq_true hz] at zz
  obtain ⟨sd, hsd⟩ : ∃ s, txt (G) = s := ⟨_, rfl⟩
  have Hd : Hid (txt (G) = sd ∧ ern (G) = 0) := ⟨hsd, ern_fit f1⟩
  have HNd : Hid (NumL sd.data.toList (G)) := num_of Hd.out.1 Hd.out.2 rfl
  clear hsd
  obtain ⟨sx, hsx⟩ : ∃ s, txt (X) = s := ⟨_, rfl⟩
  have Hx : Hid (txt (X) = sx ∧ ern (X) = 0) := ⟨hsx, ern_fit f2⟩
  have HNx : Hid (NumL sx.data.toList (X)) := num_of Hx.out.1 Hx.out.2 rfl
  clear hsx
  obtain ⟨sy, hsy⟩ : ∃ s, txt (Y) = s := ⟨_, rfl⟩
  have Hy : Hid (txt (Y) = sy ∧ ern (Y) = 0) := ⟨hsy, ern_fit f3⟩
  have HNy : Hid (NumL sy.data.toList (Y)) := num_of Hy.out.1 Hy.out.2 rfl
  clear hsy
  obtain ⟨sq, hsq⟩ : ∃ s, txt (x.tdiv G) = s := ⟨_, rfl⟩
  have Hq : Hid (txt (x.tdiv G) = sq ∧ ern (x.tdiv G) = 0) := ⟨hsq, ern_fit (tdiv_fit ha.2)⟩
  have HNq : Hid (NumL sq.data.toList (x.tdiv G)) := num_of Hq.out.1 Hq.out.2 rfl
  clear hsq
  obtain ⟨sk, hsk⟩ : ∃ s, txt (y.tdiv G) = s := ⟨_, rfl⟩
  have Hk : Hid (txt (y.tdiv G) = sk ∧ ern (y.tdiv G) = 0) := ⟨hsk, ern_fit (tdiv_fit hb.2)⟩
  have HNk : Hid (NumL sk.data.toList (y.tdiv G)) := num_of Hk.out.1 Hk.out.2 rfl
  clear hsk
  obtain ⟨sl, hsl⟩ : ∃ s, txt (((y.tdiv G).natAbs : Int)) = s := ⟨_, rfl⟩
  have Hl : Hid (txt (((y.tdiv G).natAbs : Int)) = sl ∧ ern (((y.tdiv G).natAbs : Int)) = 0) := ⟨hsl, ern_fit (by rw [Int.natAbs_natCast]; exact tdiv_fit hb.2)⟩
  have HNl : Hid (NumL sl.data.toList (((y.tdiv G).natAbs : Int))) := num_of Hl.out.1 Hl.out.2 rfl
  clear hsl
  have zd := num_is_zero HNd.out
  rw [decide_eq_false hg] at zd
  obtain ⟨gx, hgx'⟩ : ∃ g, sgn X = g := ⟨_, rfl⟩
  obtain ⟨gn, hgn⟩ : ∃ g, sgn (X + -((y.tdiv G).natAbs : Int)) = g := ⟨_, rfl⟩
  have HGX := Lib.hid hgx'
  have HGL := Lib.hid hgn
  have hl0 : 0 ≤ gx := by have h := hP.low hy; have h2 := sg_lt (x := X); rw [hgx'] at h2; omega
  have hl1 : gn < 0 := by
    have h := hP.high hy
    have h2 := sg_lt (x := X + -((y.tdiv G).natAbs : Int))
    rw [hgn] at h2
    have h3 : (y.tdiv G).natAbs = y.natAbs / Int.gcd x y := by
      rw [Int.natAbs_tdiv, ← hG, Int.natAbs_natCast]; rfl
    rw [h2, h3]; omega
  have hl2 : decide (gx < 0) = false := decide_eq_false (by omega)
  have hl3 : decide (0 ≤ gn) = false := decide_eq_false (by omega)
  obtain ⟨s1, hs1⟩ : ∃ s, txt (X * x) = s := ⟨_, rfl⟩
  obtain ⟨e1, he1⟩ : ∃ e, ern (X * x) = e := ⟨_, rfl⟩
  have H1 := Lib.hid (And.intro hs1 he1)
  have O1 := Lib.hid (he1 ▸ ern_or (X * x))
  clear hs1 he1
  obtain ⟨s2, hs2⟩ : ∃ s, txt (Y * y) = s := ⟨_, rfl⟩
  obtain ⟨e2, he2⟩ : ∃ e, ern (Y * y) = e := ⟨_, rfl⟩
  have H2 := Lib.hid (And.intro hs2 he2)
  have O2 := Lib.hid (he2 ▸ ern_or (Y * y))
  clear hs2 he2
  have Ht : Hid (txt (X * x + Y * y) = sd ∧ ern (X * x + Y * y) = 0) := by show _ ∧ _; rw [hP.sum]; exact Hd.out
  clear ht ha hb hc hsan hy hz hg hP hG hgx hgy f1 f2 f3 hr0 hs0 hz0 hgx' hgn 
  rcases O1.out with h1 | h1 <;> rcases O2.out with h2 | h2
  all_goals
    (try have HN1 : Hid (NumL s1.data.toList (X * x)) := num_of H1.out.1 H1.out.2 h1)
    (try have HN2 : Hid (NumL s2.data.toList (Y * y)) := num_of H2.out.1 H2.out.2 h2)
    subst h1 h2
    go_enter Tryz.func12, Tryz.ntmps12
    go_wp2_with (first
    | (go_at_call 40; (with_reducible refine (integers_ok a b c x y z _ HA.out HBB.out HC.out).mono ?_); rintro e W ⟨rfl, hbz⟩; have HB := Lib.hid (below_then' HB.out hbz); clear hbz)
    | (go_at_call 32; (with_reducible refine (law_gcd a b x y G X Y sd sx sy _ HA.out HBB.out HP.out Hd.out.1 Hx.out.1 Hy.out.1 (HT.out.below HB.out)).mono ?_); rintro e W ⟨rfl, hbz⟩; have HB := Lib.hid (below_then' HB.out hbz); clear hbz)
    | (go_at_call 27; (with_reducible refine (law_quo a sd x G sq ⟨#[48]⟩ _ HA.out HNd.out HGN.out Hq.out.1 Hr0.out (HT.out.below HB.out)).mono ?_); rintro e W ⟨rfl, hbz⟩; have HB := Lib.hid (below_then' HB.out hbz); clear hbz)
    | (go_at_call 27; (with_reducible refine (law_quo b sd y G sk ⟨#[48]⟩ _ HBB.out HNd.out HGN.out Hk.out.1 Hs0.out (HT.out.below HB.out)).mono ?_); rintro e W ⟨rfl, hbz⟩; have HB := Lib.hid (below_then' HB.out hbz); clear hbz)
    | (go_at_call 48; (with_reducible refine (law_sign_at sx X gx _ HNx.out HGX.out (HT.out.below HB.out)).mono ?_); rintro e W ⟨rfl, hbz⟩; have HB := Lib.hid (below_then' HB.out hbz); clear hbz)
    | (go_at_call 49; (with_reducible refine (law_abs sk (y.tdiv G) sl _ _ HNk.out Hl.out.1 Hl.out.2 (HT.out.below HB.out)).mono ?_); rintro e W ⟨rfl, hbz⟩; have HB := Lib.hid (below_then' HB.out hbz); clear hbz)
    | (go_at_call 45; (with_reducible refine (law_cmp_at sx sl X _ gn _ HNx.out HNl.out HGL.out (HT.out.below HB.out)).mono ?_); rintro e W ⟨rfl, hbz⟩; have HB := Lib.hid (below_then' HB.out hbz); clear hbz)
    | (go_at_call 19; (with_reducible refine (law_mul sx a X x s1 _ _ HNx.out HA.out H1.out.1 H1.out.2 (HT.out.below HB.out)).mono ?_); rintro e W ⟨rfl, hbz⟩; have HB := Lib.hid (below_then' HB.out hbz); clear hbz)
    | (go_at_call 19; (with_reducible refine (law_mul sy b Y y s2 _ _ HNy.out HBB.out H2.out.1 H2.out.2 (HT.out.below HB.out)).mono ?_); rintro e W ⟨rfl, hbz⟩; have HB := Lib.hid (below_then' HB.out hbz); clear hbz)
    | (go_at_call 42; (with_reducible refine (law_add s1 s2 (X * x) (Y * y) sd _ _ HN1.out HN2.out Ht.out.1 Ht.out.2 (HT.out.below HB.out)).mono ?_); rintro e W ⟨rfl, hbz⟩; have HB := Lib.hid (below_then' HB.out hbz); clear hbz)
    | (go_at_call 18; (with_reducible refine (HS.out _ (HT.out.below HB.out)).mono ?_); rintro e W ⟨rfl, hbz⟩; have HB := Lib.hid (below_then' HB.out hbz); clear hbz))
    all_goals
      go_ret
      exact ⟨rfl, HB.out⟩

set_option maxRecDepth 100000 in
set_option maxHeartbeats 8000000 in
theorem gcd_Br (hsan : San) (a b c : ByteArray) (x y z : Int) (w : World) (ht : Tabs w) (ha : NumL a.data.toList x) (hb : NumL b.data.toList y) (hc : NumL c.data.toList z) (hg : (Int.gcd x y : Int) ≠ 0) (hy : y ≠ 0) (hz : z ≠ 0) (q1 : x.tmod z ≠ 0) :
    Calls Tryz.prog 12 #[.string a, .string b, .string c] w fun e w' => e = .returned (.bool true) ∧ Below w.heap.size w w' := by
  have HT := Lib.hid ht
  have HA := Lib.hid ha
  have HBB := Lib.hid hb
  have HC := Lib.hid hc
  have HB : Hid (Below w.heap.size w w) := Below.refl _ _
  have HS : Hid (∀ w : World, Tabs w → Calls Tryz.prog 18 #[] w fun e w' => e = .returned (.bool true) ∧ Below w.heap.size w w') := hsan
  obtain ⟨G, hG⟩ : ∃ G : Int, (Int.gcd x y : Int) = G := ⟨_, rfl⟩
  obtain ⟨X, Y, hP⟩ := gcdP_ex x y
  have hgx : (Int.gcd x y : Int) ∣ x := Int.gcd_dvd_left ..
  have hgy : (Int.gcd x y : Int) ∣ y := Int.gcd_dvd_right ..
  rw [hG] at hP hg hgx hgy
  obtain ⟨f1, f2, f3⟩ := gcdP_fit hP ha.2 hb.2
  have hr0 : x.tmod G = 0 := Int.tmod_eq_zero_of_dvd hgx
  have hs0 : y.tmod G = 0 := Int.tmod_eq_zero_of_dvd hgy
  have HP := Lib.hid hP
  have HGN := Lib.hid hg
  have hz0 : txt 0 = ⟨#[48]⟩ := (num_txt (s := ⟨#[48]⟩) num_zero).1
  have Hr0 : Hid (txt (x.tmod G) = ⟨#[48]⟩) := by show _ = _; rw [hr0]; exact hz0
  have Hs0 : Hid (txt (y.tmod G) = ⟨#[48]⟩) := by show _ = _; rw [hs0]; exact hz0
  have zy := num_is_zero hb
  rw [decide_eq_false hy] at zy
  have zz := num_is_zero hc
  rw [decide_eq_false hz] at zz
  obtain ⟨sd, hsd⟩ : ∃ s, txt (G) = s := ⟨_, rfl⟩
  have Hd : Hid (txt (G) = sd ∧ ern (G) = 0) := ⟨hsd, ern_fit f1⟩
  have HNd : Hid (NumL sd.data.toList (G)) := num_of Hd.out.1 Hd.out.2 rfl
  clear hsd
  obtain ⟨sx, hsx⟩ : ∃ s, txt (X) = s := ⟨_, rfl⟩
  have Hx : Hid (txt (X) = sx ∧ ern (X) = 0) := ⟨hsx, ern_fit f2⟩
  have HNx : Hid (NumL sx.data.toList (X)) := num_of Hx.out.1 Hx.out.2 rfl
  clear hsx
  obtain ⟨sy, hsy⟩ : ∃ s, txt (Y) = s := ⟨_, rfl⟩
  have Hy : Hid (txt (Y) = sy ∧ ern (Y) = 0) := ⟨hsy, ern_fit f3⟩
  have HNy : Hid (NumL sy.data.toList (Y)) := num_of Hy.out.1 Hy.out.2 rfl
  clear hsy
  obtain ⟨sq, hsq⟩ : ∃ s, txt (x.tdiv G) = s := ⟨_, rfl⟩
  have Hq : Hid (txt (x.tdiv G) = sq ∧ ern (x.tdiv G) = 0) := ⟨hsq, ern_fit (tdiv_fit ha.2)⟩
  have HNq : Hid (NumL sq.data.toList (x.tdiv G)) := num_of Hq.out.1 Hq.out.2 rfl
  clear hsq
  obtain ⟨sk, hsk⟩ : ∃ s, txt (y.tdiv G) = s := ⟨_, rfl⟩
  have Hk : Hid (txt (y.tdiv G) = sk ∧ ern (y.tdiv G) = 0) := ⟨hsk, ern_fit (tdiv_fit hb.2)⟩
  have HNk : Hid (NumL sk.data.toList (y.tdiv G)) := num_of Hk.out.1 Hk.out.2 rfl
  clear hsk
  obtain ⟨sl, hsl⟩ : ∃ s, txt (((y.tdiv G).natAbs : Int)) = s := ⟨_, rfl⟩
  have Hl : Hid (txt (((y.tdiv G).natAbs : Int)) = sl ∧ ern (((y.tdiv G).natAbs : Int)) = 0) := ⟨hsl, ern_fit (by rw [Int.natAbs_natCast]; exact tdiv_fit hb.2)⟩
  have HNl : Hid (NumL sl.data.toList (((y.tdiv G).natAbs : Int))) := num_of Hl.out.1 Hl.out.2 rfl
  clear hsl
  have zd := num_is_zero HNd.out
  rw [decide_eq_false hg] at zd
  obtain ⟨gx, hgx'⟩ : ∃ g, sgn X = g := ⟨_, rfl⟩
  obtain ⟨gn, hgn⟩ : ∃ g, sgn (X + -((y.tdiv G).natAbs : Int)) = g := ⟨_, rfl⟩
  have HGX := Lib.hid hgx'
  have HGL := Lib.hid hgn
  have hl0 : 0 ≤ gx := by have h := hP.low hy; have h2 := sg_lt (x := X); rw [hgx'] at h2; omega
  have hl1 : gn < 0 := by
    have h := hP.high hy
    have h2 := sg_lt (x := X + -((y.tdiv G).natAbs : Int))
    rw [hgn] at h2
    have h3 : (y.tdiv G).natAbs = y.natAbs / Int.gcd x y := by
      rw [Int.natAbs_tdiv, ← hG, Int.natAbs_natCast]; rfl
    rw [h2, h3]; omega
  have hl2 : decide (gx < 0) = false := decide_eq_false (by omega)
  have hl3 : decide (0 ≤ gn) = false := decide_eq_false (by omega)
  obtain ⟨s1, hs1⟩ : ∃ s, txt (X * x) = s := ⟨_, rfl⟩
  obtain ⟨e1, he1⟩ : ∃ e, ern (X * x) = e := ⟨_, rfl⟩
  have H1 := Lib.hid (And.intro hs1 he1)
  have O1 := Lib.hid (he1 ▸ ern_or (X * x))
  clear hs1 he1
  obtain ⟨s2, hs2⟩ : ∃ s, txt (Y * y) = s := ⟨_, rfl⟩
  obtain ⟨e2, he2⟩ : ∃ e, ern (Y * y) = e := ⟨_, rfl⟩
  have H2 := Lib.hid (And.intro hs2 he2)
  have O2 := Lib.hid (he2 ▸ ern_or (Y * y))
  clear hs2 he2
  have Ht : Hid (txt (X * x + Y * y) = sd ∧ ern (X * x + Y * y) = 0) := by show _ ∧ _; rw [hP.sum]; exact Hd.out
  have HZ := Lib.hid hz
  obtain ⟨sv, hsv⟩ : ∃ s, txt (x.tdiv z) = s := ⟨_, rfl⟩
  have Hv : Hid (txt (x.tdiv z) = sv ∧ ern (x.tdiv z) = 0) := ⟨hsv, ern_fit (tdiv_fit ha.2)⟩
  have HNv : Hid (NumL sv.data.toList (x.tdiv z)) := num_of Hv.out.1 Hv.out.2 rfl
  clear hsv
  obtain ⟨sm, hsm⟩ : ∃ s, txt (x.tmod z) = s := ⟨_, rfl⟩
  have Hm : Hid (txt (x.tmod z) = sm ∧ ern (x.tmod z) = 0) := ⟨hsm, ern_fit (tmod_fit ha.2)⟩
  have HNm : Hid (NumL sm.data.toList (x.tmod z)) := num_of Hm.out.1 Hm.out.2 rfl
  clear hsm
  obtain ⟨sn, hsn⟩ : ∃ s, txt (y.tdiv z) = s := ⟨_, rfl⟩
  have Hn : Hid (txt (y.tdiv z) = sn ∧ ern (y.tdiv z) = 0) := ⟨hsn, ern_fit (tdiv_fit hb.2)⟩
  have HNn : Hid (NumL sn.data.toList (y.tdiv z)) := num_of Hn.out.1 Hn.out.2 rfl
  clear hsn
  obtain ⟨so, hso⟩ : ∃ s, txt (y.tmod z) = s := ⟨_, rfl⟩
  have Ho : Hid (txt (y.tmod z) = so ∧ ern (y.tmod z) = 0) := ⟨hso, ern_fit (tmod_fit hb.2)⟩
  have HNo : Hid (NumL so.data.toList (y.tmod z)) := num_of Ho.out.1 Ho.out.2 rfl
  clear hso
  obtain ⟨sp, hsp⟩ : ∃ s, txt (G.tdiv z) = s := ⟨_, rfl⟩
  have Hp : Hid (txt (G.tdiv z) = sp ∧ ern (G.tdiv z) = 0) := ⟨hsp, ern_fit (tdiv_fit f1)⟩
  have HNp : Hid (NumL sp.data.toList (G.tdiv z)) := num_of Hp.out.1 Hp.out.2 rfl
  clear hsp
  obtain ⟨sr, hsr⟩ : ∃ s, txt (G.tmod z) = s := ⟨_, rfl⟩
  have Hr : Hid (txt (G.tmod z) = sr ∧ ern (G.tmod z) = 0) := ⟨hsr, ern_fit (tmod_fit f1)⟩
  have HNr : Hid (NumL sr.data.toList (G.tmod z)) := num_of Hr.out.1 Hr.out.2 rfl
  clear hsr
  have zm := num_is_zero HNm.out
  rw [decide_eq_false q1] at zm
  clear ht ha hb hc hsan hy hz hg hP hG hgx hgy f1 f2 f3 hr0 hs0 hz0 hgx' hgn q1
  rcases O1.out with h1 | h1 <;> rcases O2.out with h2 | h2
  all_goals
    (try have HN1 : Hid (NumL s1.data.toList (X * x)) := num_of H1.out.1 H1.out.2 h1)
    (try have HN2 : Hid (NumL s2.data.toList (Y * y)) := num_of H2.out.1 H2.out.2 h2)
    subst h1 h2
    go_enter Tryz.func12, Tryz.ntmps12
    go_wp2_with (first
    | (go_at_call 40; (with_reducible refine (integers_ok a b c x y z _ HA.out HBB.out HC.out).mono ?_); rintro e W ⟨rfl, hbz⟩; have HB := Lib.hid (below_then' HB.out hbz); clear hbz)
    | (go_at_call 32; (with_reducible refine (law_gcd a b x y G X Y sd sx sy _ HA.out HBB.out HP.out Hd.out.1 Hx.out.1 Hy.out.1 (HT.out.below HB.out)).mono ?_); rintro e W ⟨rfl, hbz⟩; have HB := Lib.hid (below_then' HB.out hbz); clear hbz)
    | (go_at_call 27; (with_reducible refine (law_quo a sd x G sq ⟨#[48]⟩ _ HA.out HNd.out HGN.out Hq.out.1 Hr0.out (HT.out.below HB.out)).mono ?_); rintro e W ⟨rfl, hbz⟩; have HB := Lib.hid (below_then' HB.out hbz); clear hbz)
    | (go_at_call 27; (with_reducible refine (law_quo b sd y G sk ⟨#[48]⟩ _ HBB.out HNd.out HGN.out Hk.out.1 Hs0.out (HT.out.below HB.out)).mono ?_); rintro e W ⟨rfl, hbz⟩; have HB := Lib.hid (below_then' HB.out hbz); clear hbz)
    | (go_at_call 48; (with_reducible refine (law_sign_at sx X gx _ HNx.out HGX.out (HT.out.below HB.out)).mono ?_); rintro e W ⟨rfl, hbz⟩; have HB := Lib.hid (below_then' HB.out hbz); clear hbz)
    | (go_at_call 49; (with_reducible refine (law_abs sk (y.tdiv G) sl _ _ HNk.out Hl.out.1 Hl.out.2 (HT.out.below HB.out)).mono ?_); rintro e W ⟨rfl, hbz⟩; have HB := Lib.hid (below_then' HB.out hbz); clear hbz)
    | (go_at_call 45; (with_reducible refine (law_cmp_at sx sl X _ gn _ HNx.out HNl.out HGL.out (HT.out.below HB.out)).mono ?_); rintro e W ⟨rfl, hbz⟩; have HB := Lib.hid (below_then' HB.out hbz); clear hbz)
    | (go_at_call 19; (with_reducible refine (law_mul sx a X x s1 _ _ HNx.out HA.out H1.out.1 H1.out.2 (HT.out.below HB.out)).mono ?_); rintro e W ⟨rfl, hbz⟩; have HB := Lib.hid (below_then' HB.out hbz); clear hbz)
    | (go_at_call 19; (with_reducible refine (law_mul sy b Y y s2 _ _ HNy.out HBB.out H2.out.1 H2.out.2 (HT.out.below HB.out)).mono ?_); rintro e W ⟨rfl, hbz⟩; have HB := Lib.hid (below_then' HB.out hbz); clear hbz)
    | (go_at_call 42; (with_reducible refine (law_add s1 s2 (X * x) (Y * y) sd _ _ HN1.out HN2.out Ht.out.1 Ht.out.2 (HT.out.below HB.out)).mono ?_); rintro e W ⟨rfl, hbz⟩; have HB := Lib.hid (below_then' HB.out hbz); clear hbz)
    | (go_at_call 27; (with_reducible refine (law_quo a c x z sv sm _ HA.out HC.out HZ.out Hv.out.1 Hm.out.1 (HT.out.below HB.out)).mono ?_); rintro e W ⟨rfl, hbz⟩; have HB := Lib.hid (below_then' HB.out hbz); clear hbz)
    | (go_at_call 27; (with_reducible refine (law_quo b c y z sn so _ HBB.out HC.out HZ.out Hn.out.1 Ho.out.1 (HT.out.below HB.out)).mono ?_); rintro e W ⟨rfl, hbz⟩; have HB := Lib.hid (below_then' HB.out hbz); clear hbz)
    | (go_at_call 27; (with_reducible refine (law_quo sd c G z sp sr _ HNd.out HC.out HZ.out Hp.out.1 Hr.out.1 (HT.out.below HB.out)).mono ?_); rintro e W ⟨rfl, hbz⟩; have HB := Lib.hid (below_then' HB.out hbz); clear hbz)
    | (go_at_call 18; (with_reducible refine (HS.out _ (HT.out.below HB.out)).mono ?_); rintro e W ⟨rfl, hbz⟩; have HB := Lib.hid (below_then' HB.out hbz); clear hbz))
    all_goals
      go_ret
      exact ⟨rfl, HB.out⟩

set_option maxRecDepth 100000 in
set_option maxHeartbeats 8000000 in
theorem gcd_Bs (hsan : San) (a b c : ByteArray) (x y z : Int) (w : World) (ht : Tabs w) (ha : NumL a.data.toList x) (hb : NumL b.data.toList y) (hc : NumL c.data.toList z) (hg : (Int.gcd x y : Int) ≠ 0) (hy : y ≠ 0) (hz : z ≠ 0) (q1 : x.tmod z = 0) (q2 : y.tmod z ≠ 0) :
    Calls Tryz.prog 12 #[.string a, .string b, .string c] w fun e w' => e = .returned (.bool true) ∧ Below w.heap.size w w' := by
  have HT := Lib.hid ht
  have HA := Lib.hid ha
  have HBB := Lib.hid hb
  have HC := Lib.hid hc
  have HB : Hid (Below w.heap.size w w) := Below.refl _ _
  have HS : Hid (∀ w : World, Tabs w → Calls Tryz.prog 18 #[] w fun e w' => e = .returned (.bool true) ∧ Below w.heap.size w w') := hsan
  obtain ⟨G, hG⟩ : ∃ G : Int, (Int.gcd x y : Int) = G := ⟨_, rfl⟩
  obtain ⟨X, Y, hP⟩ := gcdP_ex x y
  have hgx : (Int.gcd x y : Int) ∣ x := Int.gcd_dvd_left ..
  have hgy : (Int.gcd x y : Int) ∣ y := Int.gcd_dvd_right ..
  rw [hG] at hP hg hgx hgy
  obtain ⟨f1, f2, f3⟩ := gcdP_fit hP ha.2 hb.2
  have hr0 : x.tmod G = 0 := Int.tmod_eq_zero_of_dvd hgx
  have hs0 : y.tmod G = 0 := Int.tmod_eq_zero_of_dvd hgy
  have HP := Lib.hid hP
  have HGN := Lib.hid hg
  have hz0 : txt 0 = ⟨#[48]⟩ := (num_txt (s := ⟨#[48]⟩) num_zero).1
  have Hr0 : Hid (txt (x.tmod G) = ⟨#[48]⟩) := by show _ = _; rw [hr0]; exact hz0
  have Hs0 : Hid (txt (y.tmod G) = ⟨#[48]⟩) := by show _ = _; rw [hs0]; exact hz0
  have zy := num_is_zero hb
  rw [decide_eq_false hy] at zy
  have zz := num_is_zero hc
  rw [decide_eq_false hz] at zz
  obtain ⟨sd, hsd⟩ : ∃ s, txt (G) = s := ⟨_, rfl⟩
  have Hd : Hid (txt (G) = sd ∧ ern (G) = 0) := ⟨hsd, ern_fit f1⟩
  have HNd : Hid (NumL sd.data.toList (G)) := num_of Hd.out.1 Hd.out.2 rfl
  clear hsd
  obtain ⟨sx, hsx⟩ : ∃ s, txt (X) = s := ⟨_, rfl⟩
  have Hx : Hid (txt (X) = sx ∧ ern (X) = 0) := ⟨hsx, ern_fit f2⟩
  have HNx : Hid (NumL sx.data.toList (X)) := num_of Hx.out.1 Hx.out.2 rfl
  clear hsx
  obtain ⟨sy, hsy⟩ : ∃ s, txt (Y) = s := ⟨_, rfl⟩
  have Hy : Hid (txt (Y) = sy ∧ ern (Y) = 0) := ⟨hsy, ern_fit f3⟩
  have HNy : Hid (NumL sy.data.toList (Y)) := num_of Hy.out.1 Hy.out.2 rfl
  clear hsy
  obtain ⟨sq, hsq⟩ : ∃ s, txt (x.tdiv G) = s := ⟨_, rfl⟩
  have Hq : Hid (txt (x.tdiv G) = sq ∧ ern (x.tdiv G) = 0) := ⟨hsq, ern_fit (tdiv_fit ha.2)⟩
  have HNq : Hid (NumL sq.data.toList (x.tdiv G)) := num_of Hq.out.1 Hq.out.2 rfl
  clear hsq
  obtain ⟨sk, hsk⟩ : ∃ s, txt (y.tdiv G) = s := ⟨_, rfl⟩
  have Hk : Hid (txt (y.tdiv G) = sk ∧ ern (y.tdiv G) = 0) := ⟨hsk, ern_fit (tdiv_fit hb.2)⟩
  have HNk : Hid (NumL sk.data.toList (y.tdiv G)) := num_of Hk.out.1 Hk.out.2 rfl
  clear hsk
  obtain ⟨sl, hsl⟩ : ∃ s, txt (((y.tdiv G).natAbs : Int)) = s := ⟨_, rfl⟩
  have Hl : Hid (txt (((y.tdiv G).natAbs : Int)) = sl ∧ ern (((y.tdiv G).natAbs : Int)) = 0) := ⟨hsl, ern_fit (by rw [Int.natAbs_natCast]; exact tdiv_fit hb.2)⟩
  have HNl : Hid (NumL sl.data.toList (((y.tdiv G).natAbs : Int))) := num_of Hl.out.1 Hl.out.2 rfl
  clear hsl
  have zd := num_is_zero HNd.out
  rw [decide_eq_false hg] at zd
  obtain ⟨gx, hgx'⟩ : ∃ g, sgn X = g := ⟨_, rfl⟩
  obtain ⟨gn, hgn⟩ : ∃ g, sgn (X + -((y.tdiv G).natAbs : Int)) = g := ⟨_, rfl⟩
  have HGX := Lib.hid hgx'
  have HGL := Lib.hid hgn
  have hl0 : 0 ≤ gx := by have h := hP.low hy; have h2 := sg_lt (x := X); rw [hgx'] at h2; omega
  have hl1 : gn < 0 := by
    have h := hP.high hy
    have h2 := sg_lt (x := X + -((y.tdiv G).natAbs : Int))
    rw [hgn] at h2
    have h3 : (y.tdiv G).natAbs = y.natAbs / Int.gcd x y := by
      rw [Int.natAbs_tdiv, ← hG, Int.natAbs_natCast]; rfl
    rw [h2, h3]; omega
  have hl2 : decide (gx < 0) = false := decide_eq_false (by omega)
  have hl3 : decide (0 ≤ gn) = false := decide_eq_false (by omega)
  obtain ⟨s1, hs1⟩ : ∃ s, txt (X * x) = s := ⟨_, rfl⟩
  obtain ⟨e1, he1⟩ : ∃ e, ern (X * x) = e := ⟨_, rfl⟩
  have H1 := Lib.hid (And.intro hs1 he1)
  have O1 := Lib.hid (he1 ▸ ern_or (X * x))
  clear hs1 he1
  obtain ⟨s2, hs2⟩ : ∃ s, txt (Y * y) = s := ⟨_, rfl⟩
  obtain ⟨e2, he2⟩ : ∃ e, ern (Y * y) = e := ⟨_, rfl⟩
  have H2 := Lib.hid (And.intro hs2 he2)
  have O2 := Lib.hid (he2 ▸ ern_or (Y * y))
  clear hs2 he2
  have Ht : Hid (txt (X * x + Y * y) = sd ∧ ern (X * x + Y * y) = 0) := by show _ ∧ _; rw [hP.sum]; exact Hd.out
  have HZ := Lib.hid hz
  obtain ⟨sv, hsv⟩ : ∃ s, txt (x.tdiv z) = s := ⟨_, rfl⟩
  have Hv : Hid (txt (x.tdiv z) = sv ∧ ern (x.tdiv z) = 0) := ⟨hsv, ern_fit (tdiv_fit ha.2)⟩
  have HNv : Hid (NumL sv.data.toList (x.tdiv z)) := num_of Hv.out.1 Hv.out.2 rfl
  clear hsv
  obtain ⟨sm, hsm⟩ : ∃ s, txt (x.tmod z) = s := ⟨_, rfl⟩
  have Hm : Hid (txt (x.tmod z) = sm ∧ ern (x.tmod z) = 0) := ⟨hsm, ern_fit (tmod_fit ha.2)⟩
  have HNm : Hid (NumL sm.data.toList (x.tmod z)) := num_of Hm.out.1 Hm.out.2 rfl
  clear hsm
  obtain ⟨sn, hsn⟩ : ∃ s, txt (y.tdiv z) = s := ⟨_, rfl⟩
  have Hn : Hid (txt (y.tdiv z) = sn ∧ ern (y.tdiv z) = 0) := ⟨hsn, ern_fit (tdiv_fit hb.2)⟩
  have HNn : Hid (NumL sn.data.toList (y.tdiv z)) := num_of Hn.out.1 Hn.out.2 rfl
  clear hsn
  obtain ⟨so, hso⟩ : ∃ s, txt (y.tmod z) = s := ⟨_, rfl⟩
  have Ho : Hid (txt (y.tmod z) = so ∧ ern (y.tmod z) = 0) := ⟨hso, ern_fit (tmod_fit hb.2)⟩
  have HNo : Hid (NumL so.data.toList (y.tmod z)) := num_of Ho.out.1 Ho.out.2 rfl
  clear hso
  obtain ⟨sp, hsp⟩ : ∃ s, txt (G.tdiv z) = s := ⟨_, rfl⟩
  have Hp : Hid (txt (G.tdiv z) = sp ∧ ern (G.tdiv z) = 0) := ⟨hsp, ern_fit (tdiv_fit f1)⟩
  have HNp : Hid (NumL sp.data.toList (G.tdiv z)) := num_of Hp.out.1 Hp.out.2 rfl
  clear hsp
  obtain ⟨sr, hsr⟩ : ∃ s, txt (G.tmod z) = s := ⟨_, rfl⟩
  have Hr : Hid (txt (G.tmod z) = sr ∧ ern (G.tmod z) = 0) := ⟨hsr, ern_fit (tmod_fit f1)⟩
  have HNr : Hid (NumL sr.data.toList (G.tmod z)) := num_of Hr.out.1 Hr.out.2 rfl
  clear hsr
  have zm := num_is_zero HNm.out
  rw [decide_eq_true q1] at zm
  have zo := num_is_zero HNo.out
  rw [decide_eq_false q2] at zo
  clear ht ha hb hc hsan hy hz hg hP hG hgx hgy f1 f2 f3 hr0 hs0 hz0 hgx' hgn q1 q2
  rcases O1.out with h1 | h1 <;> rcases O2.out with h2 | h2
  all_goals
    (try have HN1 : Hid (NumL s1.data.toList (X * x)) := num_of H1.out.1 H1.out.2 h1)
    (try have HN2 : Hid (NumL s2.data.toList (Y * y)) := num_of H2.out.1 H2.out.2 h2)
    subst h1 h2
    go_enter Tryz.func12, Tryz.ntmps12
    go_wp2_with (first
    | (go_at_call 40; (with_reducible refine (integers_ok a b c x y z _ HA.out HBB.out HC.out).mono ?_); rintro e W ⟨rfl, hbz⟩; have HB := Lib.hid (below_then' HB.out hbz); clear hbz)
    | (go_at_call 32; (with_reducible refine (law_gcd a b x y G X Y sd sx sy _ HA.out HBB.out HP.out Hd.out.1 Hx.out.1 Hy.out.1 (HT.out.below HB.out)).mono ?_); rintro e W ⟨rfl, hbz⟩; have HB := Lib.hid (below_then' HB.out hbz); clear hbz)
    | (go_at_call 27; (with_reducible refine (law_quo a sd x G sq ⟨#[48]⟩ _ HA.out HNd.out HGN.out Hq.out.1 Hr0.out (HT.out.below HB.out)).mono ?_); rintro e W ⟨rfl, hbz⟩; have HB := Lib.hid (below_then' HB.out hbz); clear hbz)
    | (go_at_call 27; (with_reducible refine (law_quo b sd y G sk ⟨#[48]⟩ _ HBB.out HNd.out HGN.out Hk.out.1 Hs0.out (HT.out.below HB.out)).mono ?_); rintro e W ⟨rfl, hbz⟩; have HB := Lib.hid (below_then' HB.out hbz); clear hbz)
    | (go_at_call 48; (with_reducible refine (law_sign_at sx X gx _ HNx.out HGX.out (HT.out.below HB.out)).mono ?_); rintro e W ⟨rfl, hbz⟩; have HB := Lib.hid (below_then' HB.out hbz); clear hbz)
    | (go_at_call 49; (with_reducible refine (law_abs sk (y.tdiv G) sl _ _ HNk.out Hl.out.1 Hl.out.2 (HT.out.below HB.out)).mono ?_); rintro e W ⟨rfl, hbz⟩; have HB := Lib.hid (below_then' HB.out hbz); clear hbz)
    | (go_at_call 45; (with_reducible refine (law_cmp_at sx sl X _ gn _ HNx.out HNl.out HGL.out (HT.out.below HB.out)).mono ?_); rintro e W ⟨rfl, hbz⟩; have HB := Lib.hid (below_then' HB.out hbz); clear hbz)
    | (go_at_call 19; (with_reducible refine (law_mul sx a X x s1 _ _ HNx.out HA.out H1.out.1 H1.out.2 (HT.out.below HB.out)).mono ?_); rintro e W ⟨rfl, hbz⟩; have HB := Lib.hid (below_then' HB.out hbz); clear hbz)
    | (go_at_call 19; (with_reducible refine (law_mul sy b Y y s2 _ _ HNy.out HBB.out H2.out.1 H2.out.2 (HT.out.below HB.out)).mono ?_); rintro e W ⟨rfl, hbz⟩; have HB := Lib.hid (below_then' HB.out hbz); clear hbz)
    | (go_at_call 42; (with_reducible refine (law_add s1 s2 (X * x) (Y * y) sd _ _ HN1.out HN2.out Ht.out.1 Ht.out.2 (HT.out.below HB.out)).mono ?_); rintro e W ⟨rfl, hbz⟩; have HB := Lib.hid (below_then' HB.out hbz); clear hbz)
    | (go_at_call 27; (with_reducible refine (law_quo a c x z sv sm _ HA.out HC.out HZ.out Hv.out.1 Hm.out.1 (HT.out.below HB.out)).mono ?_); rintro e W ⟨rfl, hbz⟩; have HB := Lib.hid (below_then' HB.out hbz); clear hbz)
    | (go_at_call 27; (with_reducible refine (law_quo b c y z sn so _ HBB.out HC.out HZ.out Hn.out.1 Ho.out.1 (HT.out.below HB.out)).mono ?_); rintro e W ⟨rfl, hbz⟩; have HB := Lib.hid (below_then' HB.out hbz); clear hbz)
    | (go_at_call 27; (with_reducible refine (law_quo sd c G z sp sr _ HNd.out HC.out HZ.out Hp.out.1 Hr.out.1 (HT.out.below HB.out)).mono ?_); rintro e W ⟨rfl, hbz⟩; have HB := Lib.hid (below_then' HB.out hbz); clear hbz)
    | (go_at_call 18; (with_reducible refine (HS.out _ (HT.out.below HB.out)).mono ?_); rintro e W ⟨rfl, hbz⟩; have HB := Lib.hid (below_then' HB.out hbz); clear hbz))
    all_goals
      go_ret
      exact ⟨rfl, HB.out⟩

set_option maxRecDepth 100000 in
set_option maxHeartbeats 8000000 in
theorem gcd_Bn (hsan : San) (a b c : ByteArray) (x y z : Int) (w : World) (ht : Tabs w) (ha : NumL a.data.toList x) (hb : NumL b.data.toList y) (hc : NumL c.data.toList z) (hg : (Int.gcd x y : Int) ≠ 0) (hy : y ≠ 0) (hz : z ≠ 0) (q1 : x.tmod z = 0) (q2 : y.tmod z = 0) :
    Calls Tryz.prog 12 #[.string a, .string b, .string c] w fun e w' => e = .returned (.bool true) ∧ Below w.heap.size w w' := by
  have HT := Lib.hid ht
  have HA := Lib.hid ha
  have HBB := Lib.hid hb
  have HC := Lib.hid hc
  have HB : Hid (Below w.heap.size w w) := Below.refl _ _
  have HS : Hid (∀ w : World, Tabs w → Calls Tryz.prog 18 #[] w fun e w' => e = .returned (.bool true) ∧ Below w.heap.size w w') := hsan
  obtain ⟨G, hG⟩ : ∃ G : Int, (Int.gcd x y : Int) = G := ⟨_, rfl⟩
  obtain ⟨X, Y, hP⟩ := gcdP_ex x y
  have hgx : (Int.gcd x y : Int) ∣ x := Int.gcd_dvd_left ..
  have hgy : (Int.gcd x y : Int) ∣ y := Int.gcd_dvd_right ..
  rw [hG] at hP hg hgx hgy
  obtain ⟨f1, f2, f3⟩ := gcdP_fit hP ha.2 hb.2
  have hr0 : x.tmod G = 0 := Int.tmod_eq_zero_of_dvd hgx
  have hs0 : y.tmod G = 0 := Int.tmod_eq_zero_of_dvd hgy
  have HP := Lib.hid hP
  have HGN := Lib.hid hg
  have hz0 : txt 0 = ⟨#[48]⟩ := (num_txt (s := ⟨#[48]⟩) num_zero).1
  have Hr0 : Hid (txt (x.tmod G) = ⟨#[48]⟩) := by show _ = _; rw [hr0]; exact hz0
  have Hs0 : Hid (txt (y.tmod G) = ⟨#[48]⟩) := by show _ = _; rw [hs0]; exact hz0
  have zy := num_is_zero hb
  rw [decide_eq_false hy] at zy
  have zz := num_is_zero hc
  rw [decide_eq_false hz] at zz
  obtain ⟨sd, hsd⟩ : ∃ s, txt (G) = s := ⟨_, rfl⟩
  have Hd : Hid (txt (G) = sd ∧ ern (G) = 0) := ⟨hsd, ern_fit f1⟩
  have HNd : Hid (NumL sd.data.toList (G)) := num_of Hd.out.1 Hd.out.2 rfl
  clear hsd
  obtain ⟨sx, hsx⟩ : ∃ s, txt (X) = s := ⟨_, rfl⟩
  have Hx : Hid (txt (X) = sx ∧ ern (X) = 0) := ⟨hsx, ern_fit f2⟩
  have HNx : Hid (NumL sx.data.toList (X)) := num_of Hx.out.1 Hx.out.2 rfl
  clear hsx
  obtain ⟨sy, hsy⟩ : ∃ s, txt (Y) = s := ⟨_, rfl⟩
  have Hy : Hid (txt (Y) = sy ∧ ern (Y) = 0) := ⟨hsy, ern_fit f3⟩
  have HNy : Hid (NumL sy.data.toList (Y)) := num_of Hy.out.1 Hy.out.2 rfl
  clear hsy
  obtain ⟨sq, hsq⟩ : ∃ s, txt (x.tdiv G) = s := ⟨_, rfl⟩
  have Hq : Hid (txt (x.tdiv G) = sq ∧ ern (x.tdiv G) = 0) := ⟨hsq, ern_fit (tdiv_fit ha.2)⟩
  have HNq : Hid (NumL sq.data.toList (x.tdiv G)) := num_of Hq.out.1 Hq.out.2 rfl
  clear hsq
  obtain ⟨sk, hsk⟩ : ∃ s, txt (y.tdiv G) = s := ⟨_, rfl⟩
  have Hk : Hid (txt (y.tdiv G) = sk ∧ ern (y.tdiv G) = 0) := ⟨hsk, ern_fit (tdiv_fit hb.2)⟩
  have HNk : Hid (NumL sk.data.toList (y.tdiv G)) := num_of Hk.out.1 Hk.out.2 rfl
  clear hsk
  obtain ⟨sl, hsl⟩ : ∃ s, txt (((y.tdiv G).natAbs : Int)) = s := ⟨_, rfl⟩
  have Hl : Hid (txt (((y.tdiv G).natAbs : Int)) = sl ∧ ern (((y.tdiv G).natAbs : Int)) = 0) := ⟨hsl, ern_fit (by rw [Int.natAbs_natCast]; exact tdiv_fit hb.2)⟩
  have HNl : Hid (NumL sl.data.toList (((y.tdiv G).natAbs : Int))) := num_of Hl.out.1 Hl.out.2 rfl
  clear hsl
  have zd := num_is_zero HNd.out
  rw [decide_eq_false hg] at zd
  obtain ⟨gx, hgx'⟩ : ∃ g, sgn X = g := ⟨_, rfl⟩
  obtain ⟨gn, hgn⟩ : ∃ g, sgn (X + -((y.tdiv G).natAbs : Int)) = g := ⟨_, rfl⟩
  have HGX := Lib.hid hgx'
  have HGL := Lib.hid hgn
  have hl0 : 0 ≤ gx := by have h := hP.low hy; have h2 := sg_lt (x := X); rw [hgx'] at h2; omega
  have hl1 : gn < 0 := by
    have h := hP.high hy
    have h2 := sg_lt (x := X + -((y.tdiv G).natAbs : Int))
    rw [hgn] at h2
    have h3 : (y.tdiv G).natAbs = y.natAbs / Int.gcd x y := by
      rw [Int.natAbs_tdiv, ← hG, Int.natAbs_natCast]; rfl
    rw [h2, h3]; omega
  have hl2 : decide (gx < 0) = false := decide_eq_false (by omega)
  have hl3 : decide (0 ≤ gn) = false := decide_eq_false (by omega)
  obtain ⟨s1, hs1⟩ : ∃ s, txt (X * x) = s := ⟨_, rfl⟩
  obtain ⟨e1, he1⟩ : ∃ e, ern (X * x) = e := ⟨_, rfl⟩
  have H1 := Lib.hid (And.intro hs1 he1)
  have O1 := Lib.hid (he1 ▸ ern_or (X * x))
  clear hs1 he1
  obtain ⟨s2, hs2⟩ : ∃ s, txt (Y * y) = s := ⟨_, rfl⟩
  obtain ⟨e2, he2⟩ : ∃ e, ern (Y * y) = e := ⟨_, rfl⟩
  have H2 := Lib.hid (And.intro hs2 he2)
  have O2 := Lib.hid (he2 ▸ ern_or (Y * y))
  clear hs2 he2
  have Ht : Hid (txt (X * x + Y * y) = sd ∧ ern (X * x + Y * y) = 0) := by show _ ∧ _; rw [hP.sum]; exact Hd.out
  have HZ := Lib.hid hz
  obtain ⟨sv, hsv⟩ : ∃ s, txt (x.tdiv z) = s := ⟨_, rfl⟩
  have Hv : Hid (txt (x.tdiv z) = sv ∧ ern (x.tdiv z) = 0) := ⟨hsv, ern_fit (tdiv_fit ha.2)⟩
  have HNv : Hid (NumL sv.data.toList (x.tdiv z)) := num_of Hv.out.1 Hv.out.2 rfl
  clear hsv
  obtain ⟨sm, hsm⟩ : ∃ s, txt (x.tmod z) = s := ⟨_, rfl⟩
  have Hm : Hid (txt (x.tmod z) = sm ∧ ern (x.tmod z) = 0) := ⟨hsm, ern_fit (tmod_fit ha.2)⟩
  have HNm : Hid (NumL sm.data.toList (x.tmod z)) := num_of Hm.out.1 Hm.out.2 rfl
  clear hsm
  obtain ⟨sn, hsn⟩ : ∃ s, txt (y.tdiv z) = s := ⟨_, rfl⟩
  have Hn : Hid (txt (y.tdiv z) = sn ∧ ern (y.tdiv z) = 0) := ⟨hsn, ern_fit (tdiv_fit hb.2)⟩
  have HNn : Hid (NumL sn.data.toList (y.tdiv z)) := num_of Hn.out.1 Hn.out.2 rfl
  clear hsn
  obtain ⟨so, hso⟩ : ∃ s, txt (y.tmod z) = s := ⟨_, rfl⟩
  have Ho : Hid (txt (y.tmod z) = so ∧ ern (y.tmod z) = 0) := ⟨hso, ern_fit (tmod_fit hb.2)⟩
  have HNo : Hid (NumL so.data.toList (y.tmod z)) := num_of Ho.out.1 Ho.out.2 rfl
  clear hso
  obtain ⟨sp, hsp⟩ : ∃ s, txt (G.tdiv z) = s := ⟨_, rfl⟩
  have Hp : Hid (txt (G.tdiv z) = sp ∧ ern (G.tdiv z) = 0) := ⟨hsp, ern_fit (tdiv_fit f1)⟩
  have HNp : Hid (NumL sp.data.toList (G.tdiv z)) := num_of Hp.out.1 Hp.out.2 rfl
  clear hsp
  obtain ⟨sr, hsr⟩ : ∃ s, txt (G.tmod z) = s := ⟨_, rfl⟩
  have Hr : Hid (txt (G.tmod z) = sr ∧ ern (G.tmod z) = 0) := ⟨hsr, ern_fit (tmod_fit f1)⟩
  have HNr : Hid (NumL sr.data.toList (G.tmod z)) := num_of Hr.out.1 Hr.out.2 rfl
  clear hsr
  have zm := num_is_zero HNm.out
  rw [decide_eq_true q1] at zm
  have zo := num_is_zero HNo.out
  rw [decide_eq_true q2] at zo
  have hrz : G.tmod z = 0 := by
    have k1 : z ∣ x := Int.dvd_of_tmod_eq_zero q1
    have k2 : z ∣ y := Int.dvd_of_tmod_eq_zero q2
    refine Int.tmod_eq_zero_of_dvd ?_
    rw [← hG]
    exact Int.dvd_coe_gcd k1 k2
  have zr := num_is_zero HNr.out
  rw [decide_eq_true hrz] at zr
  clear hrz
  clear ht ha hb hc hsan hy hz hg hP hG hgx hgy f1 f2 f3 hr0 hs0 hz0 hgx' hgn q1 q2
  rcases O1.out with h1 | h1 <;> rcases O2.out with h2 | h2
  all_goals
    (try have HN1 : Hid (NumL s1.data.toList (X * x)) := num_of H1.out.1 H1.out.2 h1)
    (try have HN2 : Hid (NumL s2.data.toList (Y * y)) := num_of H2.out.1 H2.out.2 h2)
    subst h1 h2
    go_enter Tryz.func12, Tryz.ntmps12
    go_wp2_with (first
    | (go_at_call 40; (with_reducible refine (integers_ok a b c x y z _ HA.out HBB.out HC.out).mono ?_); rintro e W ⟨rfl, hbz⟩; have HB := Lib.hid (below_then' HB.out hbz); clear hbz)
    | (go_at_call 32; (with_reducible refine (law_gcd a b x y G X Y sd sx sy _ HA.out HBB.out HP.out Hd.out.1 Hx.out.1 Hy.out.1 (HT.out.below HB.out)).mono ?_); rintro e W ⟨rfl, hbz⟩; have HB := Lib.hid (below_then' HB.out hbz); clear hbz)
    | (go_at_call 27; (with_reducible refine (law_quo a sd x G sq ⟨#[48]⟩ _ HA.out HNd.out HGN.out Hq.out.1 Hr0.out (HT.out.below HB.out)).mono ?_); rintro e W ⟨rfl, hbz⟩; have HB := Lib.hid (below_then' HB.out hbz); clear hbz)
    | (go_at_call 27; (with_reducible refine (law_quo b sd y G sk ⟨#[48]⟩ _ HBB.out HNd.out HGN.out Hk.out.1 Hs0.out (HT.out.below HB.out)).mono ?_); rintro e W ⟨rfl, hbz⟩; have HB := Lib.hid (below_then' HB.out hbz); clear hbz)
    | (go_at_call 48; (with_reducible refine (law_sign_at sx X gx _ HNx.out HGX.out (HT.out.below HB.out)).mono ?_); rintro e W ⟨rfl, hbz⟩; have HB := Lib.hid (below_then' HB.out hbz); clear hbz)
    | (go_at_call 49; (with_reducible refine (law_abs sk (y.tdiv G) sl _ _ HNk.out Hl.out.1 Hl.out.2 (HT.out.below HB.out)).mono ?_); rintro e W ⟨rfl, hbz⟩; have HB := Lib.hid (below_then' HB.out hbz); clear hbz)
    | (go_at_call 45; (with_reducible refine (law_cmp_at sx sl X _ gn _ HNx.out HNl.out HGL.out (HT.out.below HB.out)).mono ?_); rintro e W ⟨rfl, hbz⟩; have HB := Lib.hid (below_then' HB.out hbz); clear hbz)
    | (go_at_call 19; (with_reducible refine (law_mul sx a X x s1 _ _ HNx.out HA.out H1.out.1 H1.out.2 (HT.out.below HB.out)).mono ?_); rintro e W ⟨rfl, hbz⟩; have HB := Lib.hid (below_then' HB.out hbz); clear hbz)
    | (go_at_call 19; (with_reducible refine (law_mul sy b Y y s2 _ _ HNy.out HBB.out H2.out.1 H2.out.2 (HT.out.below HB.out)).mono ?_); rintro e W ⟨rfl, hbz⟩; have HB := Lib.hid (below_then' HB.out hbz); clear hbz)
    | (go_at_call 42; (with_reducible refine (law_add s1 s2 (X * x) (Y * y) sd _ _ HN1.out HN2.out Ht.out.1 Ht.out.2 (HT.out.below HB.out)).mono ?_); rintro e W ⟨rfl, hbz⟩; have HB := Lib.hid (below_then' HB.out hbz); clear hbz)
    | (go_at_call 27; (with_reducible refine (law_quo a c x z sv sm _ HA.out HC.out HZ.out Hv.out.1 Hm.out.1 (HT.out.below HB.out)).mono ?_); rintro e W ⟨rfl, hbz⟩; have HB := Lib.hid (below_then' HB.out hbz); clear hbz)
    | (go_at_call 27; (with_reducible refine (law_quo b c y z sn so _ HBB.out HC.out HZ.out Hn.out.1 Ho.out.1 (HT.out.below HB.out)).mono ?_); rintro e W ⟨rfl, hbz⟩; have HB := Lib.hid (below_then' HB.out hbz); clear hbz)
    | (go_at_call 27; (with_reducible refine (law_quo sd c G z sp sr _ HNd.out HC.out HZ.out Hp.out.1 Hr.out.1 (HT.out.below HB.out)).mono ?_); rintro e W ⟨rfl, hbz⟩; have HB := Lib.hid (below_then' HB.out hbz); clear hbz)
    | (go_at_call 18; (with_reducible refine (HS.out _ (HT.out.below HB.out)).mono ?_); rintro e W ⟨rfl, hbz⟩; have HB := Lib.hid (below_then' HB.out hbz); clear hbz))
    all_goals
      go_ret
      exact ⟨rfl, HB.out⟩

end Go.Proofs.YtbjgpbdkofadiaaGreatDoor
