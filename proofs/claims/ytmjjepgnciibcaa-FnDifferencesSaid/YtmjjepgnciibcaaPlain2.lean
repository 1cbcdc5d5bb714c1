/- Plain rectangles: what the program's functions on rectangles compute. No program in sight. -/
import Derived.Test.YtmjjepgnciibcaaPlain
namespace Go.Proofs.Ytmjjepgnciibcaa.Pl

structure R where
  x : Int
  y : Int
  w : Int
  h : Int
deriving DecidableEq
theorem R.ext' {a b : R} (h1 : a.x = b.x) (h2 : a.y = b.y) (h3 : a.w = b.w) (h4 : a.h = b.h) : a = b := by cases a; cases b; simp_all
def R.ok (r : R) : Bool := rectOk r.x r.y r.w r.h
def R.empty (r : R) : Bool := r.w == 0 || r.h == 0
def R.zero : R := ⟨0, 0, 0, 0⟩
def inter (a b : R) : R :=
  if !a.ok || !b.ok then R.zero
  else if min (a.x + a.w) (b.x + b.w) - max a.x b.x ≤ 0 ∨ min (a.y + a.h) (b.y + b.h) - max a.y b.y ≤ 0 then R.zero
  else ⟨max a.x b.x, max a.y b.y, min (a.x + a.w) (b.x + b.w) - max a.x b.x, min (a.y + a.h) (b.y + b.h) - max a.y b.y⟩
def bounds (a b : R) : R :=
  if !a.ok || !b.ok then R.zero
  else if a.empty && b.empty then R.zero
  else if a.empty then b
  else if b.empty then a
  else
    let r : R := ⟨min a.x b.x, min a.y b.y, max (a.x + a.w) (b.x + b.w) - min a.x b.x, max (a.y + a.h) (b.y + b.h) - min a.y b.y⟩
    if r.ok then r else R.zero
def moved (r : R) (dx dy : Int) : R :=
  if !r.ok || !inB dx (-2000) 2000 || !inB dy (-2000) 2000 then r
  else if rectOk (r.x + dx) (r.y + dy) r.w r.h then ⟨r.x + dx, r.y + dy, r.w, r.h⟩ else r
def covers (a b : R) : Bool := a.ok && b.ok && (b.empty || (!a.empty && decide (a.x ≤ b.x) && decide (a.y ≤ b.y) && decide (b.x + b.w ≤ a.x + a.w) && decide (b.y + b.h ≤ a.y + a.h)))
end Go.Proofs.Ytmjjepgnciibcaa.Pl
