/- Plain images: what the program's functions on images compute. No program in sight. -/
import Derived.Test.YtmjjepgnciibcaaPlain2
import Derived.Test.YtmjjepgnciibcaaPlain3
namespace Go.Proofs.Ytmjjepgnciibcaa.Pl

structure Img where
  w : Int
  h : Int
  d : List Int
deriving DecidableEq
def Img.zero : Img := ⟨0, 0, []⟩
def imageOk (i : Img) : Bool := inB i.w 1 16 && inB i.h 1 16 && decide ((i.d.length : Int) = i.w * i.h) && i.d.all isPix
theorem imageOk_t {i : Img} (h : imageOk i = true) : (1 ≤ i.w ∧ i.w ≤ 16) ∧ (1 ≤ i.h ∧ i.h ≤ 16) ∧ (i.d.length : Int) = i.w * i.h ∧ ∀ z ∈ i.d, isPix z = true := by
  simp only [imageOk, Bool.and_eq_true, decide_eq_true_eq, List.all_eq_true] at h
  exact ⟨inB_t h.1.1.1, inB_t h.1.1.2, h.1.2, h.2⟩
theorem imageOk_mk {i : Img} (h1 : 1 ≤ i.w ∧ i.w ≤ 16) (h2 : 1 ≤ i.h ∧ i.h ≤ 16) (h3 : (i.d.length : Int) = i.w * i.h) (h4 : ∀ z ∈ i.d, isPix z = true) : imageOk i = true := by
  simp only [imageOk, Bool.and_eq_true, decide_eq_true_eq, List.all_eq_true]
  exact ⟨⟨⟨inB_mk h1, inB_mk h2⟩, h3⟩, h4⟩

/-- The pixel at a place of the data. -/
def ix (d : List Int) (k : Int) : Int := d.getD k.toNat 0
theorem ix_get {d : List Int} {k : Nat} {z : Int} (h : d[k]? = some z) : ix d k = z := by simp [ix, List.getD_eq_getElem?_getD, h]

/-- The first n values of a picture of width w that a function gives. -/
def tabTo (w : Nat) (f : Nat → Nat → Int) (n : Nat) : List Int := (List.range n).map fun k => f (k % w) (k / w)
theorem tabTo_length (w : Nat) (f : Nat → Nat → Int) (n : Nat) : (tabTo w f n).length = n := by simp [tabTo]
theorem tabTo_snoc {w x y : Nat} (f : Nat → Nat → Int) (hx : x < w) : tabTo w f (y * w + x) ++ [f x y] = tabTo w f (y * w + x + 1) := by
  have e1 : (y * w + x) % w = x := by rw [Nat.add_comm, Nat.add_mul_mod_self_right]; exact Nat.mod_eq_of_lt hx
  have e2 : (y * w + x) / w = y := by rw [Nat.add_comm, Nat.add_mul_div_right _ _ (by omega), Nat.div_eq_of_lt hx]; omega
  unfold tabTo
  rw [List.range_succ, List.map_append, List.map_singleton, e1, e2]
theorem tabTo_get {w x y n : Nat} (f : Nat → Nat → Int) (hx : x < w) (h : y * w + x < n) : (tabTo w f n)[y * w + x]? = some (f x y) := by
  have e1 : (y * w + x) % w = x := by rw [Nat.add_comm, Nat.add_mul_mod_self_right]; exact Nat.mod_eq_of_lt hx
  have e2 : (y * w + x) / w = y := by rw [Nat.add_comm, Nat.add_mul_div_right _ _ (by omega), Nat.div_eq_of_lt hx]; omega
  unfold tabTo
  rw [List.getElem?_map, List.getElem?_range h, Option.map_some, e1, e2]
theorem tabTo_congr {w n : Nat} {f g : Nat → Nat → Int} (h : ∀ k, k < n → f (k % w) (k / w) = g (k % w) (k / w)) : tabTo w f n = tabTo w g n := by
  unfold tabTo
  exact List.map_congr_left fun k hk => h k (List.mem_range.1 hk)
def tab (w h : Int) (f : Nat → Nat → Int) : List Int := tabTo w.toNat f (h * w).toNat

def newImage (w h p : Int) : Img := if inB w 1 16 && inB h 1 16 && isPix p then ⟨w, h, List.replicate (w * h).toNat p⟩ else Img.zero
def pixelOf (i : Img) (x y : Int) : Int := if imageOk i && inB x 0 (i.w - 1) && inB y 0 (i.h - 1) then ix i.d (y * i.w + x) else -1
def tileAt (i : Img) (x y : Nat) : Int := ix i.d ((y : Int) % i.h * i.w + (x : Int) % i.w)
def tile (i : Img) (w h : Int) : Img := if imageOk i && inB w 1 16 && inB h 1 16 then ⟨w, h, tab w h (tileAt i)⟩ else Img.zero
def scaleAt (i : Img) (w h : Int) (x y : Nat) : Int := ix i.d (scalePoint i.h h y * i.w + scalePoint i.w w x)
def scaled (i : Img) (w h : Int) : Img := if imageOk i && inB w 1 16 && inB h 1 16 then ⟨w, h, tab w h (scaleAt i w h)⟩ else Img.zero
def cropAt (i : Img) (r : R) (x y : Nat) : Int := ix i.d ((r.y + y) * i.w + r.x + x)
def cropOk (i : Img) (r : R) : Bool := imageOk i && !r.empty && covers ⟨0, 0, i.w, i.h⟩ r
def crop (i : Img) (r : R) : Img := if cropOk i r then ⟨r.w, r.h, tab r.w r.h (cropAt i r)⟩ else Img.zero
/-- Row y of the rectangle, and the rows before it, laid on the data. -/
def fillRow (p : Int) (w : Nat) (y x0 : Nat) : Nat → List Int → List Int
  | 0, d => d
  | n + 1, d => (fillRow p w y x0 n d).set (y * w + (x0 + n)) p
def fillTo (p : Int) (w y0 x0 m : Nat) : Nat → List Int → List Int
  | 0, d => d
  | n + 1, d => fillRow p w (y0 + n) x0 m (fillTo p w y0 x0 m n d)
def fill (i : Img) (r : R) (p : Int) : Img :=
  if imageOk i && r.ok && isPix p then
    let c := inter r ⟨0, 0, i.w, i.h⟩
    ⟨i.w, i.h, fillTo p i.w.toNat c.y.toNat c.x.toNat c.w.toNat c.h.toNat i.d⟩
  else i
theorem fillRow_length (p : Int) (w y x0 n : Nat) (d : List Int) : (fillRow p w y x0 n d).length = d.length := by
  induction n with
  | zero => rfl
  | succ n ih => simp [fillRow, ih]
theorem fillTo_length (p : Int) (w y0 x0 m n : Nat) (d : List Int) : (fillTo p w y0 x0 m n d).length = d.length := by
  induction n with
  | zero => rfl
  | succ n ih => simp [fillTo, fillRow_length, ih]
theorem mem_set_or {α : Type} {l : List α} {k : Nat} {a b : α} (h : a ∈ l.set k b) : a ∈ l ∨ a = b := by
  rcases List.mem_or_eq_of_mem_set h with h | h
  · exact .inl h
  · exact .inr h
theorem fillRow_pix {p : Int} (hp : isPix p = true) (w y x0 n : Nat) {d : List Int} (h : ∀ z ∈ d, isPix z = true) : ∀ z ∈ fillRow p w y x0 n d, isPix z = true := by
  induction n with
  | zero => exact h
  | succ n ih =>
    intro z hz
    rcases mem_set_or hz with hz | rfl
    · exact ih z hz
    · exact hp
theorem fillTo_pix {p : Int} (hp : isPix p = true) (w y0 x0 m n : Nat) {d : List Int} (h : ∀ z ∈ d, isPix z = true) : ∀ z ∈ fillTo p w y0 x0 m n d, isPix z = true := by
  induction n with
  | zero => exact h
  | succ n ih => exact fillRow_pix hp _ _ _ _ ih
theorem fill_ok {i : Img} (r : R) (p : Int) (h : imageOk i = true) : imageOk (fill i r p) = true ∧ (fill i r p).w = i.w ∧ (fill i r p).h = i.h := by
  unfold fill
  split
  · rename_i hc
    simp only [Bool.and_eq_true] at hc
    obtain ⟨h1, h2, h3, h4⟩ := imageOk_t h
    exact ⟨imageOk_mk h1 h2 (by simp [fillTo_length, h3]) (fillTo_pix hc.2 _ _ _ _ _ h4), rfl, rfl⟩
  · exact ⟨h, rfl, rfl⟩
theorem newImage_ok {w h p : Int} (hw : inB w 1 16 = true) (hh : inB h 1 16 = true) (hp : isPix p = true) : imageOk (newImage w h p) = true ∧ (newImage w h p).w = w ∧ (newImage w h p).h = h := by
  have h1 := inB_t hw
  have h2 := inB_t hh
  have h3 := mul_bd (a := w) (b := h) (A := 16) (B := 16) (by omega) (by omega) (by omega) (by omega)
  have e : newImage w h p = ⟨w, h, List.replicate (w * h).toNat p⟩ := by simp only [newImage, hw, hh, hp, Bool.and_self, if_true]
  rw [e]
  refine ⟨imageOk_mk h1 h2 (by simp; omega) ?_, rfl, rfl⟩
  intro z hz
  rw [List.eq_of_mem_replicate hz]
  exact hp

/-- The first n pixels of the image, each put where the orientation brings it. -/
def oriTo (i : Img) (nw o : Int) (put : Int → Int → Int → Int → Int → Int × Int) : Nat → List Int → List Int
  | 0, d => d
  | n + 1, d => (oriTo i nw o put n d).set ((put i.w i.h o (n % i.w.toNat : Nat) (n / i.w.toNat : Nat)).2 * nw + (put i.w i.h o (n % i.w.toNat : Nat) (n / i.w.toNat : Nat)).1).toNat (ix i.d n)
theorem oriTo_length (i : Img) (nw o : Int) (put : Int → Int → Int → Int → Int → Int × Int) (n : Nat) (d : List Int) : (oriTo i nw o put n d).length = d.length := by
  induction n with
  | zero => rfl
  | succ n ih => simp [oriTo, ih]
end Go.Proofs.Ytmjjepgnciibcaa.Pl
