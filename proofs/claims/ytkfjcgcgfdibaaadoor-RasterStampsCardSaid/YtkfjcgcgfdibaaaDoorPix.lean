/- Plain law of pixels over pixels: the numbers. No program in sight. -/
namespace Pix
/-- 255 times what two colors make, by mode -/
def blend (mode s d : Int) : Int :=
  if mode = 0 then 255 * s else if mode = 1 then s * d else if mode = 2 then 255 * (s + d) - s * d
  else if mode = 3 then 255 * min s d else if mode = 4 then 255 * max s d else 255 * max (s - d) (d - s)
/-- a part of two numbers, halves up, as a byte -/
def rnd (n of : Int) : Int := (2 * n + of) / (2 * of) % 256
def covers (a b : Int) : Int := 255 * a + b * (255 - a)
def num (mode a b s d : Int) : Int := 255 * (a * (255 - b) * s + b * (255 - a) * d) + a * b * blend mode s d
def color (mode a b s d : Int) : Int := rnd (num mode a b s d) (255 * covers a b)
def Byte (x : Int) : Prop := 0 ≤ x ∧ x ≤ 255
theorem mul_bd {x y X Y : Int} (hx0 : 0 ≤ x) (hx : x ≤ X) (hy0 : 0 ≤ y) (hy : y ≤ Y) : 0 ≤ x * y ∧ x * y ≤ X * Y :=
  ⟨Int.mul_nonneg hx0 hy0, Int.mul_le_mul hx hy hy0 (by omega)⟩
theorem blend_bd {m s d : Int} (hs : Byte s) (hd : Byte d) : 0 ≤ blend m s d ∧ blend m s d ≤ 65025 := by
  obtain ⟨s0, s1⟩ := hs; obtain ⟨d0, d1⟩ := hd
  have h := mul_bd s0 s1 d0 d1
  have h2 : (255 - s) * (255 - d) = 255 * 255 - 255 * d - 255 * s + s * d := by
    rw [Int.sub_mul, Int.mul_sub, Int.mul_sub]; omega
  have h3 := mul_bd (show 0 ≤ 255 - s by omega) (show 255 - s ≤ 255 by omega) (show 0 ≤ 255 - d by omega) (show 255 - d ≤ 255 by omega)
  unfold blend
  repeat' split
  all_goals omega
theorem covers_bd {a b : Int} (ha : Byte a) (hb : Byte b) : 0 ≤ covers a b ∧ covers a b ≤ 65025 := by
  obtain ⟨a0, a1⟩ := ha; obtain ⟨b0, b1⟩ := hb
  have h := mul_bd b0 b1 (show 0 ≤ 255 - a by omega) (show 255 - a ≤ 255 - a by omega)
  unfold covers; omega
theorem covers_comm (a b : Int) : covers a b = covers b a := by
  unfold covers; rw [Int.mul_sub, Int.mul_sub, Int.mul_comm b a]; omega
theorem covers_pos {a b : Int} (ha : Byte a) (hb : Byte b) (h : covers a b ≠ 0) : 1 ≤ covers a b := by
  have := (covers_bd ha hb).1; omega
theorem rnd_exact (q of : Int) (hof : 1 ≤ of) (hq : Byte q) : rnd (q * of) of = q := by
  unfold rnd
  have e : (2 * (q * of) + of) = of + q * (2 * of) := by
    rw [show q * (2 * of) = 2 * (q * of) by rw [← Int.mul_assoc, Int.mul_comm q 2, Int.mul_assoc]]; omega
  rw [e, Int.add_mul_ediv_right _ _ (by omega), Int.ediv_eq_zero_of_lt (by omega) (by omega)]
  obtain ⟨q0, q1⟩ := hq; omega
theorem rnd_byte (n of : Int) : Byte (rnd n of) := by unfold rnd Byte; omega
theorem rnd_of_le {n of B : Int} (hof : 1 ≤ of) (h0 : 0 ≤ n) (hB : n ≤ B * of) (hB1 : B ≤ 255) : rnd n of = (2 * n + of) / (2 * of) ∧ (2 * n + of) / (2 * of) ≤ B := by
  have h1 : (2 * n + of) / (2 * of) ≤ B := by
    have : 2 * n + of < (B + 1) * (2 * of) := by rw [Int.add_mul, show B * (2 * of) = 2 * (B * of) by rw [← Int.mul_assoc, Int.mul_comm B 2, Int.mul_assoc]]; omega
    have := Int.ediv_lt_of_lt_mul (by omega) this
    omega
  have h2 : 0 ≤ (2 * n + of) / (2 * of) := Int.ediv_nonneg (by omega) (by omega)
  exact ⟨by unfold rnd; omega, h1⟩
theorem rnd_ge {n of q : Int} (hof : 1 ≤ of) (h0 : 0 ≤ n) (hB : n ≤ 255 * of) (hq : q * of ≤ n) : q ≤ rnd n of := by
  rw [(rnd_of_le hof h0 hB (by omega)).1]
  refine (Int.le_ediv_iff_mul_le (by omega)).2 ?_
  rw [show q * (2 * of) = 2 * (q * of) by rw [← Int.mul_assoc, Int.mul_comm q 2, Int.mul_assoc]]; omega
/-- over nothing -/
theorem over_none (m a s : Int) (ha : 1 ≤ a) (ha1 : a ≤ 255) (hs : Byte s) : color m a 0 s 0 = s := by
  unfold color num covers
  simp only [Int.mul_zero, Int.zero_mul, Int.add_zero, Int.sub_zero]
  rw [show (255 : Int) * (a * 255 * s) = s * (255 * (255 * a)) by rw [Int.mul_comm a 255, Int.mul_comm s, Int.mul_assoc 255 (255 * a) s]]
  exact rnd_exact _ _ (by omega) hs
/-- under nothing -/
theorem under_none (m b d : Int) (hb : 1 ≤ b) (hb1 : b ≤ 255) (hd : Byte d) : color m 0 b 0 d = d := by
  unfold color num covers
  rw [Int.zero_mul, Int.zero_mul, Int.zero_mul, Int.zero_mul, Int.add_zero, Int.zero_add, Int.mul_zero, Int.zero_add]
  rw [show (255 : Int) * (b * (255 - 0) * d) = d * (255 * (b * (255 - 0))) by rw [Int.mul_comm d, Int.mul_assoc 255]]
  exact rnd_exact _ _ (by omega) hd
/-- what covers all hides all -/
theorem full_hides (b s d : Int) (hb : Byte b) (hs : Byte s) : color 0 255 b s d = s := by
  unfold color num covers blend
  obtain ⟨b0, b1⟩ := hb
  rw [if_pos rfl, show (255 - 255 : Int) = 0 by decide, Int.mul_zero, Int.zero_mul, Int.add_zero, Int.add_zero]
  have e : (255 : Int) * (255 * (255 - b) * s) + 255 * b * (255 * s) = s * (255 * (255 * 255)) := by
    rw [show (255 : Int) * (255 - b) = 255 * 255 - 255 * b by omega, Int.sub_mul, Int.mul_sub, show (255 : Int) * b * (255 * s) = 255 * (255 * b * s) by rw [← Int.mul_assoc, Int.mul_comm (255 * b) 255, Int.mul_assoc]]; omega
  rw [e]
  exact rnd_exact _ _ (by omega) hs
theorem blend_comm (m s d : Int) (h : m ≠ 0) : blend m s d = blend m d s := by
  unfold blend
  rw [if_neg h, if_neg h]
  repeat' split
  · rw [Int.mul_comm]
  · rw [Int.mul_comm s d, Int.add_comm s d]
  · rw [Int.min_comm]
  · rw [Int.max_comm]
  · rw [Int.max_comm]
theorem color_comm (m a s d : Int) (h : m ≠ 0) : color m a a s d = color m a a d s := by
  unfold color num
  rw [blend_comm m s d h, Int.add_comm (a * (255 - a) * s)]
theorem alpha_ge (a b : Int) (ha : Byte a) (hb : Byte b) : a ≤ rnd (covers a b) 255 := by
  have hc := covers_bd ha hb
  refine rnd_ge (by omega) hc.1 (by omega) ?_
  obtain ⟨a0, a1⟩ := ha; obtain ⟨b0, b1⟩ := hb
  have h := mul_bd b0 b1 (show 0 ≤ 255 - a by omega) (show 255 - a ≤ 255 by omega)
  unfold covers; omega
theorem num_bd {m a b s d : Int} (ha : Byte a) (hb : Byte b) (hs : Byte s) (hd : Byte d) : 0 ≤ num m a b s d ∧ num m a b s d ≤ 255 * (255 * covers a b) := by
  obtain ⟨a0, a1⟩ := ha; obtain ⟨b0, b1⟩ := hb
  have p1 := mul_bd a0 (Int.le_refl a) (show 0 ≤ 255 - b by omega) (Int.le_refl (255 - b))
  have p2 := mul_bd b0 (Int.le_refl b) (show 0 ≤ 255 - a by omega) (Int.le_refl (255 - a))
  have p3 := mul_bd a0 (Int.le_refl a) b0 (Int.le_refl b)
  have q1 := mul_bd p1.1 p1.2 hs.1 hs.2
  have q2 := mul_bd p2.1 p2.2 hd.1 hd.2
  have q3 := mul_bd p3.1 p3.2 (blend_bd (m := m) hs hd).1 (blend_bd (m := m) hs hd).2
  have e1 : a * (255 - b) = 255 * a - a * b := by rw [Int.mul_sub, Int.mul_comm a 255]
  have e2 : b * (255 - a) = 255 * b - a * b := by rw [Int.mul_sub, Int.mul_comm b 255, Int.mul_comm b a]
  unfold num covers
  omega
end Pix
