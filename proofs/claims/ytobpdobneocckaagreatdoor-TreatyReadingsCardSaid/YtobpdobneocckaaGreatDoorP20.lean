/- Own texts, merged: Fou Awb Awc Opn Rgi. -/
import Derived.Test.YtobpdobneocckaaGreatDoorP15
import Derived.Lib.BufferWrite
import Derived.BigGuard
import Derived.ProofKit
import Derived.Deep.Slices
import Derived.Deep.Strs
import Derived.ChangeArms
import Derived.OpenShut
section
/- Walks: the treaty of example 1. -/
namespace Go.Proofs
open Go.RowKit
theorem rows_blk {α:Type} {R:World -> α -> List Value -> Prop} {w:World} {b:Nat} {t:TypeId} {cs:Array Value} {sz:Nat} {l:List α} (hb:Blk w b t cs) (hl:l.length * sz <= 17592186043904)
  (h:∀ i,(hi:i < l.length) -> ∃ vs:List Value,vs.length = sz /\ R w l[i] vs /\ ∀ j,(hj:j < vs.length) -> cs[i * sz + j]? = some vs[j]):RowsP w (some ⟨b,0,none⟩) sz R l:=by
 refine ⟨hl,.inr ⟨b,0,rfl,hb.lt,fun i hi=>?_⟩⟩;obtain ⟨vs,h1,h2,h3⟩:=h i hi;refine ⟨vs,h1,h2,fun j hj=>?_⟩;rw [Nat.zero_add];exact (hb.cell _).trans (h3 j hj)
theorem ints_blk {w:World} {b:Nat} {t:TypeId} {l:List Int} (hb:Blk w b t (l.map (Value.int .i64)).toArray) (hl:l.length <= 17592186043904):Ints w (some ⟨b,0,none⟩) l :=
 rows_blk hb (by omega) fun i hi=>⟨[.int .i64 l[i]],rfl,rfl,fun j hj=>by
  have:j = 0:=by simp at hj;omega
  subst this;simp [hi]⟩
def FourR (w:World) (e:Ending) (w':World):Prop :=
 ∃ b1 b2 b3 L c1 c2 c3 c4,e = .returned (.agg #[.int .i64 4,.slice (some ⟨b1,0,none⟩) 4 c1,.slice (some ⟨b2,0,none⟩) 2 c2,.slice (some ⟨b3,0,none⟩) 1 c3,.slice (some ⟨L,0,none⟩) 2 c4]) /\ Aft w w' /\ w.heap.size <= L /\
  Blk w' L 70 #[.int .i64 0,.int .i64 (-1),.int .i64 1,.int .i64 (-1)] /\
  ∀ w'',w'.grownBy w'' (some L) -> RowsP w'' (some ⟨b1,0,none⟩) 3 WayR T4.ways /\ RowsP w'' (some ⟨b2,0,none⟩) 1 WordR T4.words /\ Ints w'' (some ⟨b3,0,none⟩) T4.starts
theorem four_final (w X:World) (hX:X = (((((((((((((w.alloc (.cells #[.int .i64 4,.slice (some ⟨w.heap.size + 1,0,none⟩) 4 4,.slice (some ⟨w.heap.size + 1 + 1 + 1 + 1 + 1 + 1 + 1 + 1 + 1 + 1,0,none⟩) 2 2,.slice (some ⟨w.heap.size + 1 + 1 + 1 + 1 + 1 + 1 + 1 + 1 + 1 + 1 + 1,0,none⟩) 1 1,.slice (some ⟨w.heap.size + 1 + 1 + 1 + 1 + 1 + 1 + 1 + 1 + 1 + 1 + 1 + 1,0,none⟩) 2 2] 27)).alloc (.cells #[.int .i64 0,.int .i64 1,.int .i64 0,.int .i64 1,.int .i64 2,.int .i64 0,.int .i64 1,.int .i64 3,.int .i64 1,.int .i64 2,.int .i64 3,.int .i64 2] 65)).alloc (.cells #[.int .i64 0] 3)).alloc (.cells #[.int .i64 1,.int .i64 2] 3)).alloc (.cells #[.int .i64 1] 3)).alloc (.cells #[.int .i64 3] 3)).alloc (.cells #[.slice (some ⟨w.heap.size + 1 + 1,0,none⟩) 1 1,.slice (some ⟨w.heap.size + 1 + 1 + 1,0,none⟩) 2 2,.slice (some ⟨w.heap.size + 1 + 1 + 1 + 1,0,none⟩) 1 1,.slice (some ⟨w.heap.size + 1 + 1 + 1 + 1 + 1,0,none⟩) 1 1] 67)).alloc (.cells #[.int .i64 1,.int .i64 2] 3)).alloc (.cells #[.int .i64 3] 3)).alloc (.cells #[.slice (some ⟨w.heap.size + 1 + 1 + 1 + 1 + 1 + 1 + 1,0,none⟩) 2 2,.slice (some ⟨w.heap.size + 1 + 1 + 1 + 1 + 1 + 1 + 1 + 1,0,none⟩) 1 1] 67)).alloc (.cells #[.slice (some ⟨w.heap.size + 1 + 1 + 1 + 1 + 1 + 1,0,none⟩) 2 2,.slice (some ⟨w.heap.size + 1 + 1 + 1 + 1 + 1 + 1 + 1 + 1 + 1,0,none⟩) 1 1] 68)).alloc (.cells #[.int .i64 0] 3)).alloc (.cells #[.int .i64 0,.int .i64 (-1),.int .i64 1,.int .i64 (-1)] 70))):FourR w (.returned (.agg #[.int .i64 4,.slice (some ⟨w.heap.size + 1,0,none⟩) 4 4,.slice (some ⟨w.heap.size + 1 + 1 + 1 + 1 + 1 + 1 + 1 + 1 + 1 + 1,0,none⟩) 2 2,.slice (some ⟨w.heap.size + 1 + 1 + 1 + 1 + 1 + 1 + 1 + 1 + 1 + 1 + 1,0,none⟩) 1 1,.slice (some ⟨w.heap.size + 1 + 1 + 1 + 1 + 1 + 1 + 1 + 1 + 1 + 1 + 1 + 1,0,none⟩) 2 2])) X:=by
 have hsz:X.heap.size = w.heap.size + 13:=by rw [hX];simp
 have hA:Aft w X:=by
  rw [hX];exact (((((((((((((Aft.alloc w _).then_alloc _).then_alloc _).then_alloc _).then_alloc _).then_alloc _).then_alloc _).then_alloc _).then_alloc _).then_alloc _).then_alloc _).then_alloc _).then_alloc _)
 have B1:Blk X (w.heap.size + 1) 65 #[.int .i64 0,.int .i64 1,.int .i64 0,.int .i64 1,.int .i64 2,.int .i64 0,.int .i64 1,.int .i64 3,.int .i64 1,.int .i64 2,.int .i64 3,.int .i64 2]:=by
  have h:=Blk.new (w.alloc (.cells #[.int .i64 4,.slice (some ⟨w.heap.size + 1,0,none⟩) 4 4,.slice (some ⟨w.heap.size + 1 + 1 + 1 + 1 + 1 + 1 + 1 + 1 + 1 + 1,0,none⟩) 2 2,.slice (some ⟨w.heap.size + 1 + 1 + 1 + 1 + 1 + 1 + 1 + 1 + 1 + 1 + 1,0,none⟩) 1 1,.slice (some ⟨w.heap.size + 1 + 1 + 1 + 1 + 1 + 1 + 1 + 1 + 1 + 1 + 1 + 1,0,none⟩) 2 2] 27)) 65 #[.int .i64 0,.int .i64 1,.int .i64 0,.int .i64 1,.int .i64 2,.int .i64 0,.int .i64 1,.int .i64 3,.int .i64 1,.int .i64 2,.int .i64 3,.int .i64 2];simp only [World.size_alloc] at h;rw [hX];exact (((((((((((h.alloc _).alloc _).alloc _).alloc _).alloc _).alloc _).alloc _).alloc _).alloc _).alloc _).alloc _)
 have B2:Blk X (w.heap.size + 2) 3 #[.int .i64 0]:=by
  have h:=Blk.new ((w.alloc (.cells #[.int .i64 4,.slice (some ⟨w.heap.size + 1,0,none⟩) 4 4,.slice (some ⟨w.heap.size + 1 + 1 + 1 + 1 + 1 + 1 + 1 + 1 + 1 + 1,0,none⟩) 2 2,.slice (some ⟨w.heap.size + 1 + 1 + 1 + 1 + 1 + 1 + 1 + 1 + 1 + 1 + 1,0,none⟩) 1 1,.slice (some ⟨w.heap.size + 1 + 1 + 1 + 1 + 1 + 1 + 1 + 1 + 1 + 1 + 1 + 1,0,none⟩) 2 2] 27)).alloc (.cells #[.int .i64 0,.int .i64 1,.int .i64 0,.int .i64 1,.int .i64 2,.int .i64 0,.int .i64 1,.int .i64 3,.int .i64 1,.int .i64 2,.int .i64 3,.int .i64 2] 65)) 3 #[.int .i64 0];simp only [World.size_alloc] at h;rw [hX];exact ((((((((((h.alloc _).alloc _).alloc _).alloc _).alloc _).alloc _).alloc _).alloc _).alloc _).alloc _)
 have B3:Blk X (w.heap.size + 3) 3 #[.int .i64 1,.int .i64 2]:=by
  have h:=Blk.new (((w.alloc (.cells #[.int .i64 4,.slice (some ⟨w.heap.size + 1,0,none⟩) 4 4,.slice (some ⟨w.heap.size + 1 + 1 + 1 + 1 + 1 + 1 + 1 + 1 + 1 + 1,0,none⟩) 2 2,.slice (some ⟨w.heap.size + 1 + 1 + 1 + 1 + 1 + 1 + 1 + 1 + 1 + 1 + 1,0,none⟩) 1 1,.slice (some ⟨w.heap.size + 1 + 1 + 1 + 1 + 1 + 1 + 1 + 1 + 1 + 1 + 1 + 1,0,none⟩) 2 2] 27)).alloc (.cells #[.int .i64 0,.int .i64 1,.int .i64 0,.int .i64 1,.int .i64 2,.int .i64 0,.int .i64 1,.int .i64 3,.int .i64 1,.int .i64 2,.int .i64 3,.int .i64 2] 65)).alloc (.cells #[.int .i64 0] 3)) 3 #[.int .i64 1,.int .i64 2];simp only [World.size_alloc] at h;rw [hX];exact (((((((((h.alloc _).alloc _).alloc _).alloc _).alloc _).alloc _).alloc _).alloc _).alloc _)
 have B4:Blk X (w.heap.size + 4) 3 #[.int .i64 1]:=by
  have h:=Blk.new ((((w.alloc (.cells #[.int .i64 4,.slice (some ⟨w.heap.size + 1,0,none⟩) 4 4,.slice (some ⟨w.heap.size + 1 + 1 + 1 + 1 + 1 + 1 + 1 + 1 + 1 + 1,0,none⟩) 2 2,.slice (some ⟨w.heap.size + 1 + 1 + 1 + 1 + 1 + 1 + 1 + 1 + 1 + 1 + 1,0,none⟩) 1 1,.slice (some ⟨w.heap.size + 1 + 1 + 1 + 1 + 1 + 1 + 1 + 1 + 1 + 1 + 1 + 1,0,none⟩) 2 2] 27)).alloc (.cells #[.int .i64 0,.int .i64 1,.int .i64 0,.int .i64 1,.int .i64 2,.int .i64 0,.int .i64 1,.int .i64 3,.int .i64 1,.int .i64 2,.int .i64 3,.int .i64 2] 65)).alloc (.cells #[.int .i64 0] 3)).alloc (.cells #[.int .i64 1,.int .i64 2] 3)) 3 #[.int .i64 1];simp only [World.size_alloc] at h;rw [hX];exact ((((((((h.alloc _).alloc _).alloc _).alloc _).alloc _).alloc _).alloc _).alloc _)
 have B5:Blk X (w.heap.size + 5) 3 #[.int .i64 3]:=by
  have h:=Blk.new (((((w.alloc (.cells #[.int .i64 4,.slice (some ⟨w.heap.size + 1,0,none⟩) 4 4,.slice (some ⟨w.heap.size + 1 + 1 + 1 + 1 + 1 + 1 + 1 + 1 + 1 + 1,0,none⟩) 2 2,.slice (some ⟨w.heap.size + 1 + 1 + 1 + 1 + 1 + 1 + 1 + 1 + 1 + 1 + 1,0,none⟩) 1 1,.slice (some ⟨w.heap.size + 1 + 1 + 1 + 1 + 1 + 1 + 1 + 1 + 1 + 1 + 1 + 1,0,none⟩) 2 2] 27)).alloc (.cells #[.int .i64 0,.int .i64 1,.int .i64 0,.int .i64 1,.int .i64 2,.int .i64 0,.int .i64 1,.int .i64 3,.int .i64 1,.int .i64 2,.int .i64 3,.int .i64 2] 65)).alloc (.cells #[.int .i64 0] 3)).alloc (.cells #[.int .i64 1,.int .i64 2] 3)).alloc (.cells #[.int .i64 1] 3)) 3 #[.int .i64 3];simp only [World.size_alloc] at h;rw [hX];exact (((((((h.alloc _).alloc _).alloc _).alloc _).alloc _).alloc _).alloc _)
 have B6:Blk X (w.heap.size + 6) 67 #[.slice (some ⟨w.heap.size + 1 + 1,0,none⟩) 1 1,.slice (some ⟨w.heap.size + 1 + 1 + 1,0,none⟩) 2 2,.slice (some ⟨w.heap.size + 1 + 1 + 1 + 1,0,none⟩) 1 1,.slice (some ⟨w.heap.size + 1 + 1 + 1 + 1 + 1,0,none⟩) 1 1]:=by
  have h:=Blk.new ((((((w.alloc (.cells #[.int .i64 4,.slice (some ⟨w.heap.size + 1,0,none⟩) 4 4,.slice (some ⟨w.heap.size + 1 + 1 + 1 + 1 + 1 + 1 + 1 + 1 + 1 + 1,0,none⟩) 2 2,.slice (some ⟨w.heap.size + 1 + 1 + 1 + 1 + 1 + 1 + 1 + 1 + 1 + 1 + 1,0,none⟩) 1 1,.slice (some ⟨w.heap.size + 1 + 1 + 1 + 1 + 1 + 1 + 1 + 1 + 1 + 1 + 1 + 1,0,none⟩) 2 2] 27)).alloc (.cells #[.int .i64 0,.int .i64 1,.int .i64 0,.int .i64 1,.int .i64 2,.int .i64 0,.int .i64 1,.int .i64 3,.int .i64 1,.int .i64 2,.int .i64 3,.int .i64 2] 65)).alloc (.cells #[.int .i64 0] 3)).alloc (.cells #[.int .i64 1,.int .i64 2] 3)).alloc (.cells #[.int .i64 1] 3)).alloc (.cells #[.int .i64 3] 3)) 67 #[.slice (some ⟨w.heap.size + 1 + 1,0,none⟩) 1 1,.slice (some ⟨w.heap.size + 1 + 1 + 1,0,none⟩) 2 2,.slice (some ⟨w.heap.size + 1 + 1 + 1 + 1,0,none⟩) 1 1,.slice (some ⟨w.heap.size + 1 + 1 + 1 + 1 + 1,0,none⟩) 1 1];simp only [World.size_alloc] at h;rw [hX];exact ((((((h.alloc _).alloc _).alloc _).alloc _).alloc _).alloc _)
 have B7:Blk X (w.heap.size + 7) 3 #[.int .i64 1,.int .i64 2]:=by
  have h:=Blk.new (((((((w.alloc (.cells #[.int .i64 4,.slice (some ⟨w.heap.size + 1,0,none⟩) 4 4,.slice (some ⟨w.heap.size + 1 + 1 + 1 + 1 + 1 + 1 + 1 + 1 + 1 + 1,0,none⟩) 2 2,.slice (some ⟨w.heap.size + 1 + 1 + 1 + 1 + 1 + 1 + 1 + 1 + 1 + 1 + 1,0,none⟩) 1 1,.slice (some ⟨w.heap.size + 1 + 1 + 1 + 1 + 1 + 1 + 1 + 1 + 1 + 1 + 1 + 1,0,none⟩) 2 2] 27)).alloc (.cells #[.int .i64 0,.int .i64 1,.int .i64 0,.int .i64 1,.int .i64 2,.int .i64 0,.int .i64 1,.int .i64 3,.int .i64 1,.int .i64 2,.int .i64 3,.int .i64 2] 65)).alloc (.cells #[.int .i64 0] 3)).alloc (.cells #[.int .i64 1,.int .i64 2] 3)).alloc (.cells #[.int .i64 1] 3)).alloc (.cells #[.int .i64 3] 3)).alloc (.cells #[.slice (some ⟨w.heap.size + 1 + 1,0,none⟩) 1 1,.slice (some ⟨w.heap.size + 1 + 1 + 1,0,none⟩) 2 2,.slice (some ⟨w.heap.size + 1 + 1 + 1 + 1,0,none⟩) 1 1,.slice (some ⟨w.heap.size + 1 + 1 + 1 + 1 + 1,0,none⟩) 1 1] 67)) 3 #[.int .i64 1,.int .i64 2];simp only [World.size_alloc] at h;rw [hX];exact (((((h.alloc _).alloc _).alloc _).alloc _).alloc _)
 have B8:Blk X (w.heap.size + 8) 3 #[.int .i64 3]:=by
  have h:=Blk.new ((((((((w.alloc (.cells #[.int .i64 4,.slice (some ⟨w.heap.size + 1,0,none⟩) 4 4,.slice (some ⟨w.heap.size + 1 + 1 + 1 + 1 + 1 + 1 + 1 + 1 + 1 + 1,0,none⟩) 2 2,.slice (some ⟨w.heap.size + 1 + 1 + 1 + 1 + 1 + 1 + 1 + 1 + 1 + 1 + 1,0,none⟩) 1 1,.slice (some ⟨w.heap.size + 1 + 1 + 1 + 1 + 1 + 1 + 1 + 1 + 1 + 1 + 1 + 1,0,none⟩) 2 2] 27)).alloc (.cells #[.int .i64 0,.int .i64 1,.int .i64 0,.int .i64 1,.int .i64 2,.int .i64 0,.int .i64 1,.int .i64 3,.int .i64 1,.int .i64 2,.int .i64 3,.int .i64 2] 65)).alloc (.cells #[.int .i64 0] 3)).alloc (.cells #[.int .i64 1,.int .i64 2] 3)).alloc (.cells #[.int .i64 1] 3)).alloc (.cells #[.int .i64 3] 3)).alloc (.cells #[.slice (some ⟨w.heap.size + 1 + 1,0,none⟩) 1 1,.slice (some ⟨w.heap.size + 1 + 1 + 1,0,none⟩) 2 2,.slice (some ⟨w.heap.size + 1 + 1 + 1 + 1,0,none⟩) 1 1,.slice (some ⟨w.heap.size + 1 + 1 + 1 + 1 + 1,0,none⟩) 1 1] 67)).alloc (.cells #[.int .i64 1,.int .i64 2] 3)) 3 #[.int .i64 3];simp only [World.size_alloc] at h;rw [hX];exact ((((h.alloc _).alloc _).alloc _).alloc _)
 have B9:Blk X (w.heap.size + 9) 67 #[.slice (some ⟨w.heap.size + 1 + 1 + 1 + 1 + 1 + 1 + 1,0,none⟩) 2 2,.slice (some ⟨w.heap.size + 1 + 1 + 1 + 1 + 1 + 1 + 1 + 1,0,none⟩) 1 1]:=by
  have h:=Blk.new (((((((((w.alloc (.cells #[.int .i64 4,.slice (some ⟨w.heap.size + 1,0,none⟩) 4 4,.slice (some ⟨w.heap.size + 1 + 1 + 1 + 1 + 1 + 1 + 1 + 1 + 1 + 1,0,none⟩) 2 2,.slice (some ⟨w.heap.size + 1 + 1 + 1 + 1 + 1 + 1 + 1 + 1 + 1 + 1 + 1,0,none⟩) 1 1,.slice (some ⟨w.heap.size + 1 + 1 + 1 + 1 + 1 + 1 + 1 + 1 + 1 + 1 + 1 + 1,0,none⟩) 2 2] 27)).alloc (.cells #[.int .i64 0,.int .i64 1,.int .i64 0,.int .i64 1,.int .i64 2,.int .i64 0,.int .i64 1,.int .i64 3,.int .i64 1,.int .i64 2,.int .i64 3,.int .i64 2] 65)).alloc (.cells #[.int .i64 0] 3)).alloc (.cells #[.int .i64 1,.int .i64 2] 3)).alloc (.cells #[.int .i64 1] 3)).alloc (.cells #[.int .i64 3] 3)).alloc (.cells #[.slice (some ⟨w.heap.size + 1 + 1,0,none⟩) 1 1,.slice (some ⟨w.heap.size + 1 + 1 + 1,0,none⟩) 2 2,.slice (some ⟨w.heap.size + 1 + 1 + 1 + 1,0,none⟩) 1 1,.slice (some ⟨w.heap.size + 1 + 1 + 1 + 1 + 1,0,none⟩) 1 1] 67)).alloc (.cells #[.int .i64 1,.int .i64 2] 3)).alloc (.cells #[.int .i64 3] 3)) 67 #[.slice (some ⟨w.heap.size + 1 + 1 + 1 + 1 + 1 + 1 + 1,0,none⟩) 2 2,.slice (some ⟨w.heap.size + 1 + 1 + 1 + 1 + 1 + 1 + 1 + 1,0,none⟩) 1 1];simp only [World.size_alloc] at h;rw [hX];exact (((h.alloc _).alloc _).alloc _)
 have B10:Blk X (w.heap.size + 10) 68 #[.slice (some ⟨w.heap.size + 1 + 1 + 1 + 1 + 1 + 1,0,none⟩) 2 2,.slice (some ⟨w.heap.size + 1 + 1 + 1 + 1 + 1 + 1 + 1 + 1 + 1,0,none⟩) 1 1]:=by
  have h:=Blk.new ((((((((((w.alloc (.cells #[.int .i64 4,.slice (some ⟨w.heap.size + 1,0,none⟩) 4 4,.slice (some ⟨w.heap.size + 1 + 1 + 1 + 1 + 1 + 1 + 1 + 1 + 1 + 1,0,none⟩) 2 2,.slice (some ⟨w.heap.size + 1 + 1 + 1 + 1 + 1 + 1 + 1 + 1 + 1 + 1 + 1,0,none⟩) 1 1,.slice (some ⟨w.heap.size + 1 + 1 + 1 + 1 + 1 + 1 + 1 + 1 + 1 + 1 + 1 + 1,0,none⟩) 2 2] 27)).alloc (.cells #[.int .i64 0,.int .i64 1,.int .i64 0,.int .i64 1,.int .i64 2,.int .i64 0,.int .i64 1,.int .i64 3,.int .i64 1,.int .i64 2,.int .i64 3,.int .i64 2] 65)).alloc (.cells #[.int .i64 0] 3)).alloc (.cells #[.int .i64 1,.int .i64 2] 3)).alloc (.cells #[.int .i64 1] 3)).alloc (.cells #[.int .i64 3] 3)).alloc (.cells #[.slice (some ⟨w.heap.size + 1 + 1,0,none⟩) 1 1,.slice (some ⟨w.heap.size + 1 + 1 + 1,0,none⟩) 2 2,.slice (some ⟨w.heap.size + 1 + 1 + 1 + 1,0,none⟩) 1 1,.slice (some ⟨w.heap.size + 1 + 1 + 1 + 1 + 1,0,none⟩) 1 1] 67)).alloc (.cells #[.int .i64 1,.int .i64 2] 3)).alloc (.cells #[.int .i64 3] 3)).alloc (.cells #[.slice (some ⟨w.heap.size + 1 + 1 + 1 + 1 + 1 + 1 + 1,0,none⟩) 2 2,.slice (some ⟨w.heap.size + 1 + 1 + 1 + 1 + 1 + 1 + 1 + 1,0,none⟩) 1 1] 67)) 68 #[.slice (some ⟨w.heap.size + 1 + 1 + 1 + 1 + 1 + 1,0,none⟩) 2 2,.slice (some ⟨w.heap.size + 1 + 1 + 1 + 1 + 1 + 1 + 1 + 1 + 1,0,none⟩) 1 1];simp only [World.size_alloc] at h;rw [hX];exact ((h.alloc _).alloc _)
 have B11:Blk X (w.heap.size + 11) 3 #[.int .i64 0]:=by
  have h:=Blk.new (((((((((((w.alloc (.cells #[.int .i64 4,.slice (some ⟨w.heap.size + 1,0,none⟩) 4 4,.slice (some ⟨w.heap.size + 1 + 1 + 1 + 1 + 1 + 1 + 1 + 1 + 1 + 1,0,none⟩) 2 2,.slice (some ⟨w.heap.size + 1 + 1 + 1 + 1 + 1 + 1 + 1 + 1 + 1 + 1 + 1,0,none⟩) 1 1,.slice (some ⟨w.heap.size + 1 + 1 + 1 + 1 + 1 + 1 + 1 + 1 + 1 + 1 + 1 + 1,0,none⟩) 2 2] 27)).alloc (.cells #[.int .i64 0,.int .i64 1,.int .i64 0,.int .i64 1,.int .i64 2,.int .i64 0,.int .i64 1,.int .i64 3,.int .i64 1,.int .i64 2,.int .i64 3,.int .i64 2] 65)).alloc (.cells #[.int .i64 0] 3)).alloc (.cells #[.int .i64 1,.int .i64 2] 3)).alloc (.cells #[.int .i64 1] 3)).alloc (.cells #[.int .i64 3] 3)).alloc (.cells #[.slice (some ⟨w.heap.size + 1 + 1,0,none⟩) 1 1,.slice (some ⟨w.heap.size + 1 + 1 + 1,0,none⟩) 2 2,.slice (some ⟨w.heap.size + 1 + 1 + 1 + 1,0,none⟩) 1 1,.slice (some ⟨w.heap.size + 1 + 1 + 1 + 1 + 1,0,none⟩) 1 1] 67)).alloc (.cells #[.int .i64 1,.int .i64 2] 3)).alloc (.cells #[.int .i64 3] 3)).alloc (.cells #[.slice (some ⟨w.heap.size + 1 + 1 + 1 + 1 + 1 + 1 + 1,0,none⟩) 2 2,.slice (some ⟨w.heap.size + 1 + 1 + 1 + 1 + 1 + 1 + 1 + 1,0,none⟩) 1 1] 67)).alloc (.cells #[.slice (some ⟨w.heap.size + 1 + 1 + 1 + 1 + 1 + 1,0,none⟩) 2 2,.slice (some ⟨w.heap.size + 1 + 1 + 1 + 1 + 1 + 1 + 1 + 1 + 1,0,none⟩) 1 1] 68)) 3 #[.int .i64 0];simp only [World.size_alloc] at h;rw [hX];exact (h.alloc _)
 have B12:Blk X (w.heap.size + 12) 70 #[.int .i64 0,.int .i64 (-1),.int .i64 1,.int .i64 (-1)]:=by
  have h:=Blk.new ((((((((((((w.alloc (.cells #[.int .i64 4,.slice (some ⟨w.heap.size + 1,0,none⟩) 4 4,.slice (some ⟨w.heap.size + 1 + 1 + 1 + 1 + 1 + 1 + 1 + 1 + 1 + 1,0,none⟩) 2 2,.slice (some ⟨w.heap.size + 1 + 1 + 1 + 1 + 1 + 1 + 1 + 1 + 1 + 1 + 1,0,none⟩) 1 1,.slice (some ⟨w.heap.size + 1 + 1 + 1 + 1 + 1 + 1 + 1 + 1 + 1 + 1 + 1 + 1,0,none⟩) 2 2] 27)).alloc (.cells #[.int .i64 0,.int .i64 1,.int .i64 0,.int .i64 1,.int .i64 2,.int .i64 0,.int .i64 1,.int .i64 3,.int .i64 1,.int .i64 2,.int .i64 3,.int .i64 2] 65)).alloc (.cells #[.int .i64 0] 3)).alloc (.cells #[.int .i64 1,.int .i64 2] 3)).alloc (.cells #[.int .i64 1] 3)).alloc (.cells #[.int .i64 3] 3)).alloc (.cells #[.slice (some ⟨w.heap.size + 1 + 1,0,none⟩) 1 1,.slice (some ⟨w.heap.size + 1 + 1 + 1,0,none⟩) 2 2,.slice (some ⟨w.heap.size + 1 + 1 + 1 + 1,0,none⟩) 1 1,.slice (some ⟨w.heap.size + 1 + 1 + 1 + 1 + 1,0,none⟩) 1 1] 67)).alloc (.cells #[.int .i64 1,.int .i64 2] 3)).alloc (.cells #[.int .i64 3] 3)).alloc (.cells #[.slice (some ⟨w.heap.size + 1 + 1 + 1 + 1 + 1 + 1 + 1,0,none⟩) 2 2,.slice (some ⟨w.heap.size + 1 + 1 + 1 + 1 + 1 + 1 + 1 + 1,0,none⟩) 1 1] 67)).alloc (.cells #[.slice (some ⟨w.heap.size + 1 + 1 + 1 + 1 + 1 + 1,0,none⟩) 2 2,.slice (some ⟨w.heap.size + 1 + 1 + 1 + 1 + 1 + 1 + 1 + 1 + 1,0,none⟩) 1 1] 68)).alloc (.cells #[.int .i64 0] 3)) 70 #[.int .i64 0,.int .i64 (-1),.int .i64 1,.int .i64 (-1)];simp only [World.size_alloc] at h;rw [hX];exact h
 clear hX;refine ⟨w.heap.size + 1,w.heap.size + 10,w.heap.size + 11,w.heap.size + 12,_,_,_,_,rfl,hA,by omega,B12,fun w2 hg=>?_⟩;have C1:=B1.grown hg (fun e=>by injection e with e;omega);have C2:=B2.grown hg (fun e=>by injection e with e;omega);have C3:=B3.grown hg (fun e=>by injection e with e;omega);have C4:=B4.grown hg (fun e=>by injection e with e;omega);have C5:=B5.grown hg (fun e=>by injection e with e;omega);have C6:=B6.grown hg (fun e=>by injection e with e;omega);have C7:=B7.grown hg (fun e=>by injection e with e;omega);have C8:=B8.grown hg (fun e=>by injection e with e;omega);have C9:=B9.grown hg (fun e=>by injection e with e;omega);have C10:=B10.grown hg (fun e=>by injection e with e;omega);have C11:=B11.grown hg (fun e=>by injection e with e;omega);have I2:Ints w2 (some ⟨w.heap.size + 2,0,none⟩) [0]:=ints_blk (t:=3) (by exact C2) (by decide);have I3:Ints w2 (some ⟨w.heap.size + 3,0,none⟩) [1,2]:=ints_blk (t:=3) (by exact C3) (by decide);have I4:Ints w2 (some ⟨w.heap.size + 4,0,none⟩) [1]:=ints_blk (t:=3) (by exact C4) (by decide);have I5:Ints w2 (some ⟨w.heap.size + 5,0,none⟩) [3]:=ints_blk (t:=3) (by exact C5) (by decide);have I7:Ints w2 (some ⟨w.heap.size + 7,0,none⟩) [1,2]:=ints_blk (t:=3) (by exact C7) (by decide);have I8:Ints w2 (some ⟨w.heap.size + 8,0,none⟩) [3]:=ints_blk (t:=3) (by exact C8) (by decide)
 have M6:RowsP w2 (some ⟨w.heap.size + 6,0,none⟩) 2 MeanR [⟨[0],[1,2]⟩,⟨[1],[3]⟩]:=rows_blk C6 (by decide) fun i hi=>by
  match i,hi with
  | 0,_=>exact ⟨[.slice (some ⟨w.heap.size + 2,0,none⟩) 1 1,.slice (some ⟨w.heap.size + 3,0,none⟩) 2 2],rfl,⟨_,1,_,2,rfl,I2,I3⟩,fun j hj=>by match j,hj with | 0,_=>rfl | 1,_=>rfl⟩
  | 1,_=>exact ⟨[.slice (some ⟨w.heap.size + 4,0,none⟩) 1 1,.slice (some ⟨w.heap.size + 5,0,none⟩) 1 1],rfl,⟨_,1,_,1,rfl,I4,I5⟩,fun j hj=>by match j,hj with | 0,_=>rfl | 1,_=>rfl⟩
 have M9:RowsP w2 (some ⟨w.heap.size + 9,0,none⟩) 2 MeanR [⟨[1,2],[3]⟩]:=rows_blk C9 (by decide) fun i hi=>by
  match i,hi with
  | 0,_=>exact ⟨[.slice (some ⟨w.heap.size + 7,0,none⟩) 2 2,.slice (some ⟨w.heap.size + 8,0,none⟩) 1 1],rfl,⟨_,2,_,1,rfl,I7,I8⟩,fun j hj=>by match j,hj with | 0,_=>rfl | 1,_=>rfl⟩
 refine ⟨rows_blk C1 (by decide) fun i hi=>?_,rows_blk C10 (by decide) fun i hi=>?_,ints_blk (t:=3) (by exact C11) (by decide)⟩
 ·match i,hi with
  | 0,_=>exact ⟨[.int .i64 0,.int .i64 1,.int .i64 0],rfl,rfl,fun j hj=>by match j,hj with | 0,_=>rfl | 1,_=>rfl | 2,_=>rfl⟩
  | 1,_=>exact ⟨[.int .i64 1,.int .i64 2,.int .i64 0],rfl,rfl,fun j hj=>by match j,hj with | 0,_=>rfl | 1,_=>rfl | 2,_=>rfl⟩
  | 2,_=>exact ⟨[.int .i64 1,.int .i64 3,.int .i64 1],rfl,rfl,fun j hj=>by match j,hj with | 0,_=>rfl | 1,_=>rfl | 2,_=>rfl⟩
  | 3,_=>exact ⟨[.int .i64 2,.int .i64 3,.int .i64 2],rfl,rfl,fun j hj=>by match j,hj with | 0,_=>rfl | 1,_=>rfl | 2,_=>rfl⟩
 ·match i,hi with
  | 0,_=>exact ⟨[.slice (some ⟨w.heap.size + 6,0,none⟩) 2 2],rfl,⟨_,2,rfl,M6⟩,fun j hj=>by match j,hj with | 0,_=>rfl⟩
  | 1,_=>exact ⟨[.slice (some ⟨w.heap.size + 9,0,none⟩) 1 1],rfl,⟨_,1,rfl,M9⟩,fun j hj=>by match j,hj with | 0,_=>rfl⟩
set_option maxRecDepth 100000 in
set_option maxHeartbeats 2000000 in
theorem four_any (w:World):Calls Tryz.prog 34 #[] w (FourR w):=by
 go_enter Tryz.func34,Tryz.ntmps34;go_wp2_with fail
 refine bodyPost_ret (v:=.agg #[.int .i64 4,.slice (some ⟨w.heap.size + 1,0,none⟩) 4 4,.slice (some ⟨w.heap.size + 1 + 1 + 1 + 1 + 1 + 1 + 1 + 1 + 1 + 1,0,none⟩) 2 2,.slice (some ⟨w.heap.size + 1 + 1 + 1 + 1 + 1 + 1 + 1 + 1 + 1 + 1 + 1,0,none⟩) 1 1,.slice (some ⟨w.heap.size + 1 + 1 + 1 + 1 + 1 + 1 + 1 + 1 + 1 + 1 + 1 + 1,0,none⟩) 2 2]) (by simp [results,Tryz.results34,go_sem]) rfl ?_;exact four_final w _ rfl
end Go.Proofs
end
section
/- Walks: what the program asks of itself before it holds anything: the contracts. -/
namespace Go.Proofs
open Go.RowKit
theorem al1 (w:World) (t:TypeId) (cs:Array Value):Blk (w.alloc (.cells cs t)) w.heap.size t cs:=Blk.new w t cs
theorem al2 (w:World) (x:Obj) (t:TypeId) (cs:Array Value):Blk ((w.alloc x).alloc (.cells cs t)) (w.heap.size + 1) t cs:=by
 have h:=Blk.new (w.alloc x) t cs
 rwa [World.size_alloc] at h
theorem al3 (w:World) (x y:Obj) (t:TypeId) (cs:Array Value):Blk (((w.alloc x).alloc y).alloc (.cells cs t)) (w.heap.size + 1 + 1) t cs:=by
 have h:=al2 (w.alloc x) y t cs
 rwa [World.size_alloc] at h
theorem al4 (w:World) (x y z:Obj) (t:TypeId) (cs:Array Value):Blk ((((w.alloc x).alloc y).alloc z).alloc (.cells cs t)) (w.heap.size + 1 + 1 + 1) t cs:=by
 have h:=al3 (w.alloc x) y z t cs
 rwa [World.size_alloc] at h
theorem al5 (w:World) (x y z u:Obj) (t:TypeId) (cs:Array Value):Blk (((((w.alloc x).alloc y).alloc z).alloc u).alloc (.cells cs t)) (w.heap.size + 1 + 1 + 1 + 1) t cs:=by
 have h:=al4 (w.alloc x) y z u t cs
 rwa [World.size_alloc] at h
theorem lists_blk {w:World} {b:Nat} {cs:Array Value} {l:List (List Int)} (hb:Blk w b 24 cs) (hl:l.length <= 17592186043904)
  (h:∀ i,(hi:i < l.length) -> ∃ A c,cs[i]? = some (.slice A l[i].length c) /\ Ints w A l[i]):Lists w (some ⟨b,0,none⟩) l:=by
 refine rows_blk hb (by omega) fun i hi=>?_
 obtain ⟨A,c,h1,h2⟩:=h i hi;refine ⟨[.slice A l[i].length c],rfl,⟨A,c,rfl,h2⟩,fun j hj=>?_⟩;have:j = 0:=by simp at hj;omega
 subst this;simpa using h1
section
variable {W:World} {b1 b2 b3 L c1 c2 c3 c4:Nat}
theorem aw15 (hT:TRep W T4 (some ⟨b1,0,none⟩) (some ⟨b2,0,none⟩) (some ⟨b3,0,none⟩) (some ⟨L,0,none⟩)) {g:Nat} (hg:Blk W g 3 #[.int .i64 0,.int .i64 0]):Calls Tryz.prog 31 #[.agg #[.int .i64 4,.slice (some ⟨b1,0,none⟩) 4 c1,.slice (some ⟨b2,0,none⟩) 2 c2,.slice (some ⟨b3,0,none⟩) 1 c3,.slice (some ⟨L,0,none⟩) 2 c4],.slice (some ⟨g,0,none⟩) 2 2] W fun e w'=>Aft W w' /\ ∃ A c,e = .returned (.tuple #[.slice A 2 c,.int .i64 0]) /\ Lists w' A [[0,1,3],[0,2,3]]:=by
 refine (lines_any W T4 _ _ _ _ c1 c2 c3 c4 [0,0] _ 2 hT (ints_blk (t:=3) (l:=[0,0]) (by exact hg) (by decide))).mono ?_;rintro e w' ⟨ha,h | h⟩
 ·exact (h.1 linesE400).elim
 ·obtain ⟨_,v,rfl,hv⟩:=h;rw [lines400] at hv;obtain ⟨A,c,rfl,_,hl⟩:=hv.lists (by decide) (by decide);exact ⟨ha,A,c,rfl,hl⟩
theorem aw15b (hT:TRep W T4 (some ⟨b1,0,none⟩) (some ⟨b2,0,none⟩) (some ⟨b3,0,none⟩) (some ⟨L,0,none⟩)) {g:Nat} (hg:Blk W g 3 #[.int .i64 1,.int .i64 0]):Calls Tryz.prog 31 #[.agg #[.int .i64 4,.slice (some ⟨b1,0,none⟩) 4 c1,.slice (some ⟨b2,0,none⟩) 2 c2,.slice (some ⟨b3,0,none⟩) 1 c3,.slice (some ⟨L,0,none⟩) 2 c4],.slice (some ⟨g,0,none⟩) 2 2] W fun e w'=>Aft W w' /\ ∃ A c,e = .returned (.tuple #[.slice A 0 c,.int .i64 0]):=by
 refine (lines_any W T4 _ _ _ _ c1 c2 c3 c4 [1,0] _ 2 hT (ints_blk (t:=3) (l:=[1,0]) (by exact hg) (by decide))).mono ?_;rintro e w' ⟨ha,h | h⟩
 ·exact (h.1 linesE410).elim
 ·obtain ⟨_,v,rfl,hv⟩:=h;rw [lines410] at hv;obtain ⟨A,c,rfl,_,hl⟩:=hv.lists (by decide) (by decide);exact ⟨ha,A,c,rfl⟩
theorem aw43 (hT:TRep W T4 (some ⟨b1,0,none⟩) (some ⟨b2,0,none⟩) (some ⟨b3,0,none⟩) (some ⟨L,0,none⟩)) :Calls Tryz.prog 12 #[.agg #[.int .i64 4,.slice (some ⟨b1,0,none⟩) 4 c1,.slice (some ⟨b2,0,none⟩) 2 c2,.slice (some ⟨b3,0,none⟩) 1 c3,.slice (some ⟨L,0,none⟩) 2 c4]] W fun e w'=>Aft W w' /\ ∃ A c,e = .returned (.tuple #[.slice A 1 c,.int .i64 0]) /\ Lists w' A [[0,0]]:=by
 refine (readingsX_any W T4 _ _ _ _ c1 c2 c3 c4 hT).mono ?_;rintro e w' ⟨ha,h | h⟩
 ·exact (h.1 chk4).elim
 ·obtain ⟨_,v,rfl,hv⟩:=h;rw [read4] at hv;obtain ⟨A,c,rfl,_,hl⟩:=hv.lists (by decide) (by decide);exact ⟨ha,A,c,rfl,hl⟩
theorem aw45 (hT:TRep W T4 (some ⟨b1,0,none⟩) (some ⟨b2,0,none⟩) (some ⟨b3,0,none⟩) (some ⟨L,0,none⟩)) :Calls Tryz.prog 17 #[.agg #[.int .i64 4,.slice (some ⟨b1,0,none⟩) 4 c1,.slice (some ⟨b2,0,none⟩) 2 c2,.slice (some ⟨b3,0,none⟩) 1 c3,.slice (some ⟨L,0,none⟩) 2 c4]] W fun e w'=>Aft W w' /\ ∃ A c,e = .returned (.tuple #[.slice A 3 c,.int .i64 0]) /\ Lists w' A [[0],[1,2],[3]]:=by
 refine (ends_good W T4 _ _ _ _ c1 c2 c3 c4 hT chk4).mono ?_;rintro e w' ⟨ha,h | h⟩
 ·exact (h.1 endsOk4).elim
 ·obtain ⟨_,v,rfl,hv⟩:=h;rw [ends4] at hv;obtain ⟨A,c,rfl,_,hl⟩:=hv.lists (by decide) (by decide);exact ⟨ha,A,c,rfl,hl⟩
theorem aw21 (hT:TRep W T4 (some ⟨b1,0,none⟩) (some ⟨b2,0,none⟩) (some ⟨b3,0,none⟩) (some ⟨L,0,none⟩)) {g:Nat} (hg:Blk W g 3 #[.int .i64 0,.int .i64 1,.int .i64 3]):Calls Tryz.prog 23 #[.agg #[.int .i64 4,.slice (some ⟨b1,0,none⟩) 4 c1,.slice (some ⟨b2,0,none⟩) 2 c2,.slice (some ⟨b3,0,none⟩) 1 c3,.slice (some ⟨L,0,none⟩) 2 c4],.slice (some ⟨g,0,none⟩) 3 3] W fun e w'=>Aft W w' /\ ∃ A c,e = .returned (.tuple #[.slice A 2 c,.int .i64 0]) /\ Ints w' A [0,0]:=by
 refine (agrees_good W T4 _ _ _ _ c1 c2 c3 c4 [0,1,3] _ 3 hT (ints_blk (t:=3) (l:=[0,1,3]) (by exact hg) (by decide)) chk4 lin4 st4).mono ?_;rintro e w' ⟨ha,h | ⟨R,v,h,rfl,hv⟩⟩
 ·rw [agr4] at h;cases h.1
 ·rw [agr4] at h;cases h;obtain ⟨A,c,rfl,_,hl⟩:=own_ints hv (by decide);exact ⟨ha,A,c,rfl,hl⟩
theorem aw18 (hT:TRep W T4 (some ⟨b1,0,none⟩) (some ⟨b2,0,none⟩) (some ⟨b3,0,none⟩) (some ⟨L,0,none⟩)) {g k:Nat} (hg:Blk W g 3 #[.int .i64 1,.int .i64 0]) (hk:Blk W k 3 #[.int .i64 0,.int .i64 1,.int .i64 3]):Calls Tryz.prog 24 #[.agg #[.int .i64 4,.slice (some ⟨b1,0,none⟩) 4 c1,.slice (some ⟨b2,0,none⟩) 2 c2,.slice (some ⟨b3,0,none⟩) 1 c3,.slice (some ⟨L,0,none⟩) 2 c4],.slice (some ⟨g,0,none⟩) 2 2,.slice (some ⟨k,0,none⟩) 3 3] W fun e w'=>Aft W w' /\ ∃ A c,e = .returned (.tuple #[.slice A 1 c,.int .i64 0]) /\ Ints w' A [0]:=by
 refine (breaks_any W T4 _ _ _ _ c1 c2 c3 c4 [1,0] _ 2 [0,1,3] _ 3 hT (ints_blk (t:=3) (l:=[1,0]) (by exact hg) (by decide)) (ints_blk (t:=3) (l:=[0,1,3]) (by exact hk) (by decide))).mono ?_;rintro e w' ⟨ha,h | h⟩
 ·exact (h.1 brkE4).elim
 ·obtain ⟨_,v,rfl,hv⟩:=h;rw [brk4] at hv;obtain ⟨A,c,rfl,_,hl⟩:=own_ints hv (by decide);exact ⟨ha,A,c,rfl,hl⟩
theorem aw27 (hT:TRep W T4 (some ⟨b1,0,none⟩) (some ⟨b2,0,none⟩) (some ⟨b3,0,none⟩) (some ⟨L,0,none⟩)) {g:Nat} (hg:Blk W g 3 #[.int .i64 1,.int .i64 0]):Calls Tryz.prog 43 #[.agg #[.int .i64 4,.slice (some ⟨b1,0,none⟩) 4 c1,.slice (some ⟨b2,0,none⟩) 2 c2,.slice (some ⟨b3,0,none⟩) 1 c3,.slice (some ⟨L,0,none⟩) 2 c4],.slice (some ⟨g,0,none⟩) 2 2] W fun e w'=>Aft W w' /\ ∃ A c,e = .returned (.tuple #[.slice A 1 c,.int .i64 0]) /\ Ints w' A [0] /\ ∀ b o,A = some ⟨b,o,none⟩ -> W.heap.size <= b:=by
 refine (yield_any W T4 _ _ _ _ c1 c2 c3 c4 [1,0] _ 2 hT (ints_blk (t:=3) (l:=[1,0]) (by exact hg) (by decide))).mono ?_;rintro e w' ⟨ha,h | h⟩
 ·exact (h.1 rE410).elim
 ·obtain ⟨_,v,rfl,hv⟩:=h;rw [yl4] at hv;obtain ⟨A,c,rfl,_,hl⟩:=own_ints hv (by decide);exact ⟨ha,A,c,rfl,hl,fun b o e=>by subst e;exact (hv.lt b rfl).1⟩
theorem aw30 (hT:TRep W T4 (some ⟨b1,0,none⟩) (some ⟨b2,0,none⟩) (some ⟨b3,0,none⟩) (some ⟨L,0,none⟩)) {g k1 k2 k3 k:Nat} (hg:Blk W g 3 #[.int .i64 1,.int .i64 0]) (h1:Blk W k1 3 #[.int .i64 0,.int .i64 3,.int .i64 3,.int .i64 3]) (h2:Blk W k2 3 #[.int .i64 1,.int .i64 1,.int .i64 1,.int .i64 1]) (h3:Blk W k3 3 #[.int .i64 2,.int .i64 2,.int .i64 2,.int .i64 1]) (hk:Blk W k 24 #[.slice (some ⟨k1,0,none⟩) 4 4,.slice (some ⟨k2,0,none⟩) 4 4,.slice (some ⟨k3,0,none⟩) 4 4]) :
  Calls Tryz.prog 44 #[.agg #[.int .i64 4,.slice (some ⟨b1,0,none⟩) 4 c1,.slice (some ⟨b2,0,none⟩) 2 c2,.slice (some ⟨b3,0,none⟩) 1 c3,.slice (some ⟨L,0,none⟩) 2 c4],.slice (some ⟨g,0,none⟩) 2 2,.slice (some ⟨k,0,none⟩) 3 3] W fun e w'=>Aft W w' /\ e = .returned (.tuple #[.int .i64 1,.int .i64 0]):=by
 have hF:Lists W (some ⟨k,0,none⟩) F4:=lists_blk hk (by decide) fun i hi=>by
  match i,hi with
  | 0,_=>exact ⟨_,4,rfl,ints_blk (t:=3) (l:=[0,3,3,3]) (by exact h1) (by decide)⟩
  | 1,_=>exact ⟨_,4,rfl,ints_blk (t:=3) (l:=[1,1,1,1]) (by exact h2) (by decide)⟩
  | 2,_=>exact ⟨_,4,rfl,ints_blk (t:=3) (l:=[2,2,2,1]) (by exact h3) (by decide)⟩
 refine (proves_any W T4 _ _ _ _ c1 c2 c3 c4 [1,0] _ 2 F4 _ 3 hT (ints_blk (t:=3) (l:=[1,0]) (by exact hg) (by decide)) hF).mono ?_;rintro e w' ⟨ha,h⟩;rw [prN4,prE4] at h;exact ⟨ha,h⟩
theorem aw38 (hT:TRep W T5 (some ⟨b1,0,none⟩) (some ⟨b2,0,none⟩) (some ⟨b3,0,none⟩) (some ⟨L,0,none⟩)):Calls Tryz.prog 38 #[.agg #[.int .i64 4,.slice (some ⟨b1,0,none⟩) 4 c1,.slice (some ⟨b2,0,none⟩) 2 c2,.slice (some ⟨b3,0,none⟩) 1 c3,.slice (some ⟨L,0,none⟩) 2 c4]] W fun e w'=>Aft W w' /\ ∃ A c,e = .returned (.tuple #[.slice A 2 c,.int .i64 1,.int .i64 0]) /\ Ints w' A [0,0]:=by
 refine (fewest_any W T5 _ _ _ _ c1 c2 c3 c4 hT).mono ?_;rintro e w' ⟨ha,h | h⟩
 ·exact (h.1 chk5).elim
 ·obtain ⟨_,v,rfl,hv⟩:=h;rw [few5] at hv ⊢;obtain ⟨A,c,rfl,_,hl⟩:=own_ints hv (by decide);exact ⟨ha,A,c,rfl,hl⟩
theorem aw17a {A:Option Addr} {c k1 k2 k:Nat} (hA:Lists W A [[0,1,3],[0,2,3]]) (h1:Blk W k1 3 #[.int .i64 0,.int .i64 1,.int .i64 3]) (h2:Blk W k2 3 #[.int .i64 0,.int .i64 2,.int .i64 3]) (hk:Blk W k 24 #[.slice (some ⟨k1,0,none⟩) 3 3,.slice (some ⟨k2,0,none⟩) 3 3]) :
  Calls Tryz.prog 14 #[.slice A 2 c,.slice (some ⟨k,0,none⟩) 2 2] W fun e w'=>e = .returned (.bool true) /\ Aft W w' :=
 equalAll_any W A _ [[0,1,3],[0,2,3]] [[0,1,3],[0,2,3]] c 2 hA (lists_blk hk (by decide) fun i hi=>by
  match i,hi with
  | 0,_=>exact ⟨_,3,rfl,ints_blk (t:=3) (l:=[0,1,3]) (by exact h1) (by decide)⟩
  | 1,_=>exact ⟨_,3,rfl,ints_blk (t:=3) (l:=[0,2,3]) (by exact h2) (by decide)⟩)
theorem aw17b {A:Option Addr} {c k1 k:Nat} (hA:Lists W A [[0,0]]) (h1:Blk W k1 3 #[.int .i64 0,.int .i64 0]) (hk:Blk W k 24 #[.slice (some ⟨k1,0,none⟩) 2 2]) :
  Calls Tryz.prog 14 #[.slice A 1 c,.slice (some ⟨k,0,none⟩) 1 1] W fun e w'=>e = .returned (.bool true) /\ Aft W w' :=
 equalAll_any W A _ [[0,0]] [[0,0]] c 1 hA (lists_blk hk (by decide) fun i hi=>by
  match i,hi with
  | 0,_=>exact ⟨_,2,rfl,ints_blk (t:=3) (l:=[0,0]) (by exact h1) (by decide)⟩)
theorem aw17c {A:Option Addr} {c k1 k2 k3 k:Nat} (hA:Lists W A [[0],[1,2],[3]]) (h1:Blk W k1 3 #[.int .i64 0]) (h2:Blk W k2 3 #[.int .i64 1,.int .i64 2]) (h3:Blk W k3 3 #[.int .i64 3]) (hk:Blk W k 24 #[.slice (some ⟨k1,0,none⟩) 1 1,.slice (some ⟨k2,0,none⟩) 2 2,.slice (some ⟨k3,0,none⟩) 1 1]) :
  Calls Tryz.prog 14 #[.slice A 3 c,.slice (some ⟨k,0,none⟩) 3 3] W fun e w'=>e = .returned (.bool true) /\ Aft W w' :=
 equalAll_any W A _ [[0],[1,2],[3]] [[0],[1,2],[3]] c 3 hA (lists_blk hk (by decide) fun i hi=>by
  match i,hi with
  | 0,_=>exact ⟨_,1,rfl,ints_blk (t:=3) (l:=[0]) (by exact h1) (by decide)⟩
  | 1,_=>exact ⟨_,2,rfl,ints_blk (t:=3) (l:=[1,2]) (by exact h2) (by decide)⟩
  | 2,_=>exact ⟨_,1,rfl,ints_blk (t:=3) (l:=[3]) (by exact h3) (by decide)⟩)
end
end Go.Proofs
end
section
/- Walks: what the program asks of itself before it holds anything. -/
namespace Go.Proofs
open Go.RowKit
structure Aw (w:World) (b1 b2 b3 L c1 c2 c3 c4 D:Nat) (X:World):Prop where
 aft:Aft w X
 base:w.heap.size <= L
 far:L < D
 rows:∀ Z,X.grownBy Z (some L) -> RowsP Z (some ⟨b1,0,none⟩) 3 WayR T4.ways /\ RowsP Z (some ⟨b2,0,none⟩) 1 WordR T4.words /\ Ints Z (some ⟨b3,0,none⟩) T4.starts
 legs:Blk X L 70 #[.int .i64 0,.int .i64 (-1),.int .i64 1,.int .i64 (-1)]
 box:Blk X D 27 #[.int .i64 4,.slice (some ⟨b1,0,none⟩) 4 c1,.slice (some ⟨b2,0,none⟩) 2 c2,.slice (some ⟨b3,0,none⟩) 1 c3,.slice (some ⟨L,0,none⟩) 2 c4]
section
variable {w X Y:World} {b1 b2 b3 L c1 c2 c3 c4 D:Nat}
theorem Aw.start (h:Aft w X) (h2:w.heap.size <= L) (h3:Blk X L 70 #[.int .i64 0,.int .i64 (-1),.int .i64 1,.int .i64 (-1)]) (h4:∀ Z,X.grownBy Z (some L) -> RowsP Z (some ⟨b1,0,none⟩) 3 WayR T4.ways /\ RowsP Z (some ⟨b2,0,none⟩) 1 WordR T4.words /\ Ints Z (some ⟨b3,0,none⟩) T4.starts) :
  Aw w b1 b2 b3 L c1 c2 c3 c4 X.heap.size (X.alloc (.cells #[.int .i64 4,.slice (some ⟨b1,0,none⟩) 4 c1,.slice (some ⟨b2,0,none⟩) 2 c2,.slice (some ⟨b3,0,none⟩) 1 c3,.slice (some ⟨L,0,none⟩) 2 c4] 27)) :=
 ⟨h.then_alloc _,h2,h3.lt,fun Z hz=>h4 Z ((only_of_aft (Aft.alloc _ _) _).trans hz),h3.alloc _,Blk.new _ _ _⟩
theorem Aw.next (h:Aw w b1 b2 b3 L c1 c2 c3 c4 D X) (ha:Aft X Y):Aw w b1 b2 b3 L c1 c2 c3 c4 D Y:=⟨h.aft.trans ha,h.base,h.far,fun Z hz=>h.rows Z ((only_of_aft ha _).trans hz),h.legs.aft ha,h.box.aft ha⟩
theorem legs_blk {l:List Leg} {b:Nat} {cs:Array Value} (hb:Blk X b 70 cs) (hl:l.length * 2 <= 17592186043904) (h:∀ i,(hi:i < l.length) -> cs[i * 2]? = some (.int .i64 l[i].word) /\ cs[i * 2 + 1]? = some (.int .i64 l[i].other)):RowsP X (some ⟨b,0,none⟩) 2 LegR l :=
 rows_blk hb hl fun i hi=>⟨[.int .i64 l[i].word,.int .i64 l[i].other],rfl,rfl,fun j hj=>by match j,hj with | 0,_=>exact (h i hi).1 | 1,_=>exact (h i hi).2⟩
theorem Aw.rep (h:Aw w b1 b2 b3 L c1 c2 c3 c4 D X):TRep X T4 (some ⟨b1,0,none⟩) (some ⟨b2,0,none⟩) (some ⟨b3,0,none⟩) (some ⟨L,0,none⟩) :=
 ⟨(h.rows X (only_refl _ _)).1,(h.rows X (only_refl _ _)).2.1,(h.rows X (only_refl _ _)).2.2,legs_blk h.legs (by decide) fun i hi=>by match i,hi with | 0,_=>exact ⟨rfl,rfl⟩ | 1,_=>exact ⟨rfl,rfl⟩⟩
theorem setc (X:World) (L i:Nat) (v:Value):X.grownBy (X.setCell ⟨L,i,none⟩ v) (some L):=Go.Lib.grownBy_setCell X L i v
theorem Aw.rep5 (h:Aw w b1 b2 b3 L c1 c2 c3 c4 D X):TRep (X.setCell ⟨L,1,none⟩ (.int .i64 1)) T5 (some ⟨b1,0,none⟩) (some ⟨b2,0,none⟩) (some ⟨b3,0,none⟩) (some ⟨L,0,none⟩) :=
 ⟨(h.rows _ (setc X L 1 _)).1,(h.rows _ (setc X L 1 _)).2.1,(h.rows _ (setc X L 1 _)).2.2,legs_blk (h.legs.store 1 _) (by decide) fun i hi=>by match i,hi with | 0,_=>exact ⟨rfl,rfl⟩ | 1,_=>exact ⟨rfl,rfl⟩⟩
theorem Aw.aft5 (h:Aw w b1 b2 b3 L c1 c2 c3 c4 D X) (v:Value):Aft w (X.setCell ⟨L,1,none⟩ v):=h.aft.then_setCell (by exact h.base) v
theorem Aw.cells (h:Blk X D 27 #[.int .i64 4,.slice (some ⟨b1,0,none⟩) 4 c1,.slice (some ⟨b2,0,none⟩) 2 c2,.slice (some ⟨b3,0,none⟩) 1 c3,.slice (some ⟨L,0,none⟩) 2 c4]) :
  X.cell? ⟨D,0,none⟩ = some (.int .i64 4) /\ X.cell? ⟨D,1,none⟩ = some (.slice (some ⟨b1,0,none⟩) 4 c1) /\ X.cell? ⟨D,2,none⟩ = some (.slice (some ⟨b2,0,none⟩) 2 c2) /\ X.cell? ⟨D,3,none⟩ = some (.slice (some ⟨b3,0,none⟩) 1 c3) /\ X.cell? ⟨D,4,none⟩ = some (.slice (some ⟨L,0,none⟩) 2 c4) :=
 ⟨h.cell 0,h.cell 1,h.cell 2,h.cell 3,h.cell 4⟩
theorem hwL {A:Option Addr} {n:Nat} (h:L < n) (hf:∀ b o,A = some ⟨b,o,none⟩ -> n <= b):∀ b o,A = some ⟨b,o,none⟩ -> some b ≠ some L:=fun b o e h2=>by have:=hf b o e;cases h2;omega
theorem aw20 {A A':Option Addr} {c c':Nat} (l:List Int) (hA:Ints X A l) (hA':Ints X A' l) :
  Calls Tryz.prog 27 #[.slice A l.length c,.slice A' l.length c'] X fun e w'=>e = .returned (.bool true) /\ Aft X w':=by
 refine (kitEqual_int A A' l l c c' X hA hA').mono ?_;rintro e w' ⟨rfl,ha⟩;exact ⟨by simp [eqB],ha⟩
end
set_option maxRecDepth 100000 in
set_option maxHeartbeats 4000000 in
theorem awake_any (w:World):Calls Tryz.prog 9 #[] w fun e w'=>e = .returned (.bool true) /\ Aft w w':=by
 go_enter Tryz.func9,Tryz.ntmps9
 go_upto_region 2 with (first
  | (go_at_call 34;refine (four_any _).mono ?_;rintro e x ⟨b1,b2,b3,L,c1,c2,c3,c4,rfl,ha1,hL,hbL,hst⟩;have HS:=Lib.hid (Aw.start (c1:=c1) (c2:=c2) (c3:=c3) (c4:=c4) ha1 hL hbL hst);clear ha1 hL hbL hst))
 have hb:=HS.out.box;generalize hx2:(x.alloc (Obj.cells #[Value.int IntKind.i64 4,Value.slice (some { block:=b1,off:=0 }) 4 c1,Value.slice (some { block:=b2,off:=0 }) 2 c2,Value.slice (some { block:=b3,off:=0 }) 1 c3,Value.slice (some { block:=L,off:=0 }) 2 c4] 27)) = x2 at *;clear hx2;generalize x.heap.size = D at *;have hlt:=hb.lt;obtain ⟨k0,k1,k2,k3,k4⟩:=Aw.cells hb;clear hb
 go_upto_region 8 with (first
  | (go_at_call 31;refine (aw15 (HS.out.next (Aft.alloc _ _)).rep (al1 _ _ _)).mono ?_;rintro e x ⟨ha,A1,d1,rfl,hl⟩;have HL1:=Lib.hid hl;clear hl;have HS:=Lib.hid (HS.out.next ((Aft.alloc _ _).trans ha));have hb:=HS.out.box;clear hlt k0 k1 k2 k3 k4;have hlt:=hb.lt;obtain ⟨k0,k1,k2,k3,k4⟩:=Aw.cells hb;clear hb ha)
  | (go_at_call 31;refine (aw15b (HS.out.next (Aft.alloc _ _)).rep (al1 _ _ _)).mono ?_;rintro e x ⟨ha,A2,d2,rfl⟩;have HL1:=Lib.hid (HL1.out.aft ((Aft.alloc _ _).trans ha));have HS:=Lib.hid (HS.out.next ((Aft.alloc _ _).trans ha));have hb:=HS.out.box;clear hlt k0 k1 k2 k3 k4;have hlt:=hb.lt;obtain ⟨k0,k1,k2,k3,k4⟩:=Aw.cells hb;clear hb ha)
  | (go_at_call 12;refine (aw43 HS.out.rep).mono ?_;rintro e x ⟨ha,A3,d3,rfl,hl⟩;have HL3:=Lib.hid hl;clear hl;have HL1:=Lib.hid (HL1.out.aft ha);have HS:=Lib.hid (HS.out.next ha);have hb:=HS.out.box;clear hlt k0 k1 k2 k3 k4;have hlt:=hb.lt;obtain ⟨k0,k1,k2,k3,k4⟩:=Aw.cells hb;clear hb ha)
  | (go_at_call 17;refine (aw45 HS.out.rep).mono ?_;rintro e x ⟨ha,A4,d4,rfl,hl⟩;have HL4:=Lib.hid hl;clear hl;have HL1:=Lib.hid (HL1.out.aft ha);have HL3:=Lib.hid (HL3.out.aft ha);have HS:=Lib.hid (HS.out.next ha);have hb:=HS.out.box;clear hlt k0 k1 k2 k3 k4;have hlt:=hb.lt;obtain ⟨k0,k1,k2,k3,k4⟩:=Aw.cells hb;clear hb ha)
  | (go_at_call 23;refine (aw21 (HS.out.next (Aft.alloc _ _)).rep (al1 _ _ _)).mono ?_;rintro e x ⟨ha,A5,d5,rfl,hl⟩;have HL5:=Lib.hid hl;clear hl;have HL1:=Lib.hid (HL1.out.aft ((Aft.alloc _ _).trans ha));have HL3:=Lib.hid (HL3.out.aft ((Aft.alloc _ _).trans ha));have HL4:=Lib.hid (HL4.out.aft ((Aft.alloc _ _).trans ha));have HS:=Lib.hid (HS.out.next ((Aft.alloc _ _).trans ha));have hb:=HS.out.box;clear hlt k0 k1 k2 k3 k4;have hlt:=hb.lt;obtain ⟨k0,k1,k2,k3,k4⟩:=Aw.cells hb;clear hb ha)
  | (go_at_call 24;refine (aw18 (HS.out.next (Aft.then_alloc (Aft.alloc _ _) _)).rep ((al1 _ _ _).alloc _) (al2 _ _ _ _)).mono ?_;rintro e x ⟨ha,A6,d6,rfl,hl⟩;have HL6:=Lib.hid hl;clear hl;have HL1:=Lib.hid (HL1.out.aft ((Aft.then_alloc (Aft.alloc _ _) _).trans ha));have HL3:=Lib.hid (HL3.out.aft ((Aft.then_alloc (Aft.alloc _ _) _).trans ha));have HL4:=Lib.hid (HL4.out.aft ((Aft.then_alloc (Aft.alloc _ _) _).trans ha));have HL5:=Lib.hid (HL5.out.aft ((Aft.then_alloc (Aft.alloc _ _) _).trans ha));have HS:=Lib.hid (HS.out.next ((Aft.then_alloc (Aft.alloc _ _) _).trans ha));have hb:=HS.out.box;clear hlt k0 k1 k2 k3 k4;have hlt:=hb.lt;obtain ⟨k0,k1,k2,k3,k4⟩:=Aw.cells hb;clear hb ha))
 clear hlt k0 k1 k2 k3 k4;apply wp_region_lit;(repeat (first | go_big_skip | go_big_want | go_big_move | go_big_op | go_step | go_upon | go_back));go_at_call 14;refine (aw17a (HL1.out.aft (Aft.then_alloc (Aft.then_alloc (Aft.alloc _ _) _) _)) (((al1 _ _ _).alloc _).alloc _) ((al2 _ _ _ _).alloc _) (al3 _ _ _ _ _)).mono ?_;rintro e x ⟨rfl,ha⟩;dsimp only;have HL3:=Lib.hid (HL3.out.aft ((Aft.then_alloc (Aft.then_alloc (Aft.alloc _ _) _) _).trans ha));have HL4:=Lib.hid (HL4.out.aft ((Aft.then_alloc (Aft.then_alloc (Aft.alloc _ _) _) _).trans ha));have HL5:=Lib.hid (HL5.out.aft ((Aft.then_alloc (Aft.then_alloc (Aft.alloc _ _) _) _).trans ha));have HL6:=Lib.hid (HL6.out.aft ((Aft.then_alloc (Aft.then_alloc (Aft.alloc _ _) _) _).trans ha));have HS:=Lib.hid (HS.out.next ((Aft.then_alloc (Aft.then_alloc (Aft.alloc _ _) _) _).trans ha));clear ha;(repeat (first | go_big_skip | go_big_want | go_big_move | go_big_op | go_step | go_upon | go_back));go_at_call 14;refine (aw17b (HL3.out.aft (Aft.then_alloc (Aft.alloc _ _) _)) ((al1 _ _ _).alloc _) (al2 _ _ _ _)).mono ?_;rintro e x ⟨rfl,ha⟩;dsimp only;have HL4:=Lib.hid (HL4.out.aft ((Aft.then_alloc (Aft.alloc _ _) _).trans ha));have HL5:=Lib.hid (HL5.out.aft ((Aft.then_alloc (Aft.alloc _ _) _).trans ha));have HL6:=Lib.hid (HL6.out.aft ((Aft.then_alloc (Aft.alloc _ _) _).trans ha));have HS:=Lib.hid (HS.out.next ((Aft.then_alloc (Aft.alloc _ _) _).trans ha));clear ha;(repeat (first | go_big_skip | go_big_want | go_big_move | go_big_op | go_step | go_upon | go_back));go_at_call 14;refine (aw17c (HL4.out.aft (Aft.then_alloc (Aft.then_alloc (Aft.then_alloc (Aft.alloc _ _) _) _) _)) ((((al1 _ _ _).alloc _).alloc _).alloc _) (((al2 _ _ _ _).alloc _).alloc _) ((al3 _ _ _ _ _).alloc _) (al4 _ _ _ _ _ _)).mono ?_;rintro e x ⟨rfl,ha⟩;dsimp only;have HL5:=Lib.hid (HL5.out.aft ((Aft.then_alloc (Aft.then_alloc (Aft.then_alloc (Aft.alloc _ _) _) _) _).trans ha))
 have HL6:=Lib.hid (HL6.out.aft ((Aft.then_alloc (Aft.then_alloc (Aft.then_alloc (Aft.alloc _ _) _) _) _).trans ha));have HS:=Lib.hid (HS.out.next ((Aft.then_alloc (Aft.then_alloc (Aft.then_alloc (Aft.alloc _ _) _) _) _).trans ha));clear ha;(repeat (first | go_big_skip | go_big_want | go_big_move | go_big_op | go_step | go_upon | go_back));go_at_call 27;refine (aw20 [0,0] (HL5.out.aft (Aft.alloc _ _)) (ints_blk (l:=[0,0]) (t:=3) (by exact (al1 _ _ _)) (by decide))).mono ?_;rintro e x ⟨rfl,ha⟩;dsimp only;have HL6:=Lib.hid (HL6.out.aft ((Aft.alloc _ _).trans ha));have HS:=Lib.hid (HS.out.next ((Aft.alloc _ _).trans ha));clear ha;(repeat (first | go_big_skip | go_big_want | go_big_move | go_big_op | go_step | go_upon | go_back));go_at_call 27;refine (aw20 [0] (HL6.out.aft (Aft.alloc _ _)) (ints_blk (l:=[0]) (t:=3) (by exact (al1 _ _ _)) (by decide))).mono ?_;rintro e x ⟨rfl,ha⟩;dsimp only;have HS:=Lib.hid (HS.out.next ((Aft.alloc _ _).trans ha));clear ha;have hb:=HS.out.box;have hlt:=hb.lt;obtain ⟨k0,k1,k2,k3,k4⟩:=Aw.cells hb;clear hb;(repeat (first | go_big_skip | go_big_want | go_big_move | go_big_op | go_step | go_upon | go_back));go_at_call 43;refine (aw27 (HS.out.next (Aft.alloc _ _)).rep (al1 _ _ _)).mono ?_;rintro e x ⟨ha,A7,d7,rfl,hl,hfar⟩;dsimp only;have HL7:=Lib.hid hl;have HF7:=Lib.hid (hwL (Nat.lt_of_lt_of_le HS.out.legs.lt (Aft.alloc _ _).size) hfar);have HS:=Lib.hid (HS.out.next ((Aft.alloc _ _).trans ha));clear hl hfar ha hlt k0 k1 k2 k3 k4;have hb:=HS.out.box;have hlt:=hb.lt;obtain ⟨k0,k1,k2,k3,k4⟩:=Aw.cells hb;clear hb;(repeat (first | go_big_skip | go_big_want | go_big_move | go_big_op | go_step | go_upon | go_back));go_at_call 44
 refine (aw30 (HS.out.next (Aft.then_alloc (Aft.then_alloc (Aft.then_alloc (Aft.then_alloc (Aft.alloc _ _) _) _) _) _)).rep (((((al1 _ _ _).alloc _).alloc _).alloc _).alloc _) ((((al2 _ _ _ _).alloc _).alloc _).alloc _) (((al3 _ _ _ _ _).alloc _).alloc _) ((al4 _ _ _ _ _ _).alloc _) (al5 _ _ _ _ _ _ _)).mono ?_;rintro e x ⟨ha,rfl⟩;dsimp only;have HL7:=Lib.hid (HL7.out.aft ((Aft.then_alloc (Aft.then_alloc (Aft.then_alloc (Aft.then_alloc (Aft.alloc _ _) _) _) _) _).trans ha));have HS:=Lib.hid (HS.out.next ((Aft.then_alloc (Aft.then_alloc (Aft.then_alloc (Aft.then_alloc (Aft.alloc _ _) _) _) _) _).trans ha));clear ha hlt k0 k1 k2 k3 k4;have hb:=HS.out.box;have hlt:=hb.lt;obtain ⟨k0,k1,k2,k3,k4⟩:=Aw.cells hb;clear hb;have hf:=HS.out.legs.frozen 1;have hc1:x.cell? ⟨L,1,none⟩ = some (.int .i64 (-1)):=HS.out.legs.cell 1;have hl2:=HS.out.legs.lt;have hn1:¬ L = D:=by have:=HS.out.far;omega
 have hn2:¬ D = L:=fun e=>hn1 e.symm
 (repeat (first | go_big_skip | go_big_want | go_big_move | go_big_op | go_step | go_upon | go_back));go_at_call 38;refine (aw38 HS.out.rep5).mono ?_;rintro e y ⟨ha,A9,d9,rfl,hl⟩;dsimp only;have HL9:=Lib.hid hl;have HL7:=Lib.hid ((Go.Proofs.Ints.grown HL7.out (setc x L 1 (.int .i64 1)) HF7.out).aft ha);have HA:=Lib.hid ((HS.out.aft5 (.int .i64 1)).trans ha);clear hl ha hlt k0 k1 k2 k3 k4 hf hc1 hl2 hn1 hn2;(repeat (first | go_big_skip | go_big_want | go_big_move | go_big_op | go_step | go_upon | go_back));go_at_call 27;refine (aw20 [0] (HL7.out.aft (Aft.alloc _ _)) (ints_blk (l:=[0]) (t:=3) (by exact (al1 _ _ _)) (by decide))).mono ?_;rintro e z ⟨rfl,ha⟩;dsimp only;have HL9:=Lib.hid (HL9.out.aft ((Aft.alloc _ _).trans ha));have HA:=Lib.hid (HA.out.trans ((Aft.alloc _ _).trans ha));clear ha;(repeat (first | go_big_skip | go_big_want | go_big_move | go_big_op | go_step | go_upon | go_back));go_at_call 27;refine (aw20 [0,0] (HL9.out.aft (Aft.alloc _ _)) (ints_blk (l:=[0,0]) (t:=3) (by exact (al1 _ _ _)) (by decide))).mono ?_;rintro e z2 ⟨rfl,ha⟩;dsimp only;have HA:=Lib.hid (HA.out.trans ((Aft.alloc _ _).trans ha));clear ha;(repeat (first | go_big_skip | go_big_want | go_big_move | go_big_op | go_step | go_upon | go_back));refine bodyPost_ret (v:=.bool true) (by simp [results,Tryz.results9,go_sem]) rfl ?_;exact ⟨rfl,HA.out⟩
end Go.Proofs
end
section
/- What comes in as data,told as lists: slices of numbers,of lists,of records;a treaty. -/
namespace Go.Proofs
open Go.RowKit Go.WideShapes Go.ChangeShapes
theorem listTwo {α:Type} {l:List α} (h:l.length = 2):∃ a b,l = [a,b]:=by
 match l,h with
 | [a,b],_=>exact ⟨a,b,rfl⟩
theorem listThree {α:Type} {l:List α} (h:l.length = 3):∃ a b c,l = [a,b,c]:=by
 match l,h with
 | [a,b,c],_=>exact ⟨a,b,c,rfl⟩
theorem listOne {α:Type} {l:List α} (h:l.length = 1):∃ a,l = [a]:=by
 match l,h with
 | [a],_=>exact ⟨a,rfl⟩
theorem listFive {α:Type} {l:List α} (h:l.length = 5):∃ a b c d e,l = [a,b,c,d,e]:=by
 match l,h with
 | [a,b,c,d,e],_=>exact ⟨a,b,c,d,e,rfl⟩
section
variable {H:Type} {enc:TypeId × Value -> H} {W:World} {base:Nat} {spare:Nat -> Bool} {held:Bool}
theorem rowsQ_of {α:Type} [Inhabited α] {t e:TypeId} {sz fuel:Nat} {R:World -> α -> List Value -> Prop} {v:Value} {y:DataW H × List MemPlace} (ht:Tryz.prog.underlying t = some (.slice e)) (hsz:Tryz.prog.cellsOf e = sz) (hp:0 < sz)
  (hR:∀ n cs y,cs.length = sz -> DataW.trod enc Tryz.prog W base spare held n e cs = some y -> ∃ x:α,R W x cs) (h:DataW.trod enc Tryz.prog W base spare held fuel t [v] = some y) :
  ∃ A c,∃ l:List α,v = .slice A l.length c /\ RowsQ W A sz R l:=by
 rcases Go.Deep.open_slice ht h with ⟨hcs,_⟩ | ⟨a,len,cap,m,n,D,Pl,hcs,_,hl,_,hm,_,hx⟩
 ·cases hcs;exact ⟨none,0,[],rfl,.inl rfl⟩
 ·cases hcs;have hlm:len <= m:=by rw [hm];split <;> omega
  obtain ⟨f,hf⟩:=Go.Deep.choose_lt (n:=len) (p:=fun i x=>∃ cs',W.cells? base (a.add (i * sz)) sz = some cs' /\ R W x cs') (fun i hi=>by
   obtain ⟨cs',h1,h2⟩:=hx i (by omega);rw [hsz] at h1;obtain ⟨_,hlen,_⟩:=World.cells?_some h1;obtain ⟨x,hx⟩:=hR _ _ _ hlen h2;exact ⟨x,cs',h1,hx⟩)
  refine ⟨some a,cap,(List.range len).map f,by simp,?_⟩;by_cases h0:len = 0
  ·exact .inl (by rw [h0];rfl)
  obtain ⟨b,off,spot⟩:=a;obtain ⟨cs0,h1,-⟩:=hf 0 (by omega);obtain ⟨_,hlen,hcell⟩:=World.cells?_some h1;have h00:=hcell 0 hp;rw [List.getElem?_eq_getElem (by omega)] at h00;have hspot:spot = none:=by simpa [Addr.add] using World.cell?_spot h00
  subst hspot
  have hb:b < W.heap.size:=by
   have:=World.block_lt_of_cell? _ _ h00;simpa [add_plain] using this
  refine .inr ⟨b,off,rfl,hb,fun i hi=>?_⟩;have hi':i < len:=by simpa using hi
  obtain ⟨cs',h1,h2⟩:=hf i hi';obtain ⟨_,hlen,hcell⟩:=World.cells?_some h1;refine ⟨cs',hlen,by simpa using h2,fun j hj=>?_⟩;have:=hcell j (by omega);rw [add_plain,add_plain,List.getElem?_eq_getElem hj] at this;exact this
theorem intR_of {n:Nat} {cs:List Value} {y:DataW H × List MemPlace} (h:DataW.trod enc Tryz.prog W base spare held n 3 cs = some y):∃ x:Int,IntR W x cs:=by
 obtain ⟨x,rfl,_,_⟩:=DataW.trod_int Tryz.underlying3 h;exact ⟨x,rfl⟩
theorem intsQ_of {fuel:Nat} {v:Value} {y:DataW H × List MemPlace} (h:DataW.trod enc Tryz.prog W base spare held fuel 24 [v] = some y):∃ A c,∃ l:List Int,v = .slice A l.length c /\ IntsQ W A l :=
 rowsQ_of Tryz.underlying24 (by kernel_rfl) (by decide) (fun _ _ _ _ h=>intR_of h) h
instance:Inhabited Way:=⟨⟨0,0,0⟩⟩
instance:Inhabited Leg:=⟨⟨0,0⟩⟩
instance:Inhabited Mean:=⟨⟨[],[]⟩⟩
theorem cellsOf3:Tryz.prog.cellsOf 3 = 1:=by kernel_rfl
theorem cellsOf22:Tryz.prog.cellsOf 22 = 1:=by kernel_rfl
theorem cellsOf23:Tryz.prog.cellsOf 23 = 1:=by kernel_rfl
theorem cellsOf24:Tryz.prog.cellsOf 24 = 1:=by kernel_rfl
theorem cellsOf27:Tryz.prog.cellsOf 27 = 5:=by kernel_rfl
theorem cellsOf25:Tryz.prog.cellsOf 25 = 1:=by kernel_rfl
theorem waysQ_of {fuel:Nat} {v:Value} {y:DataW H × List MemPlace} (h:DataW.trod enc Tryz.prog W base spare held fuel 22 [v] = some y):∃ A c,∃ l:List Way,v = .slice A l.length c /\ RowsQ W A 3 WayR l :=
 rowsQ_of Tryz.underlying22 (by kernel_rfl) (by decide) (fun _ cs _ hl h=>by
  obtain ⟨xs,n,_,_,_,hxl,hf⟩:=DataW.trod_struct Tryz.underlying65 h;obtain ⟨y0,y1,y2,rfl⟩:=listThree hxl;obtain ⟨v0,v1,v2,rfl⟩:=listThree hl;have g0:DataW.trod enc Tryz.prog W base spare held n 3 [v0] = some y0:=by simpa [Value.cells,cellsOf3,cellsOf22,cellsOf23,cellsOf24,cellsOf25] using hf 0 _ rfl
  have g1:DataW.trod enc Tryz.prog W base spare held n 3 [v1] = some y1:=by simpa [Value.cells,cellsOf3,cellsOf22,cellsOf23,cellsOf24,cellsOf25] using hf 1 _ rfl
  have g2:DataW.trod enc Tryz.prog W base spare held n 3 [v2] = some y2:=by simpa [Value.cells,cellsOf3,cellsOf22,cellsOf23,cellsOf24,cellsOf25] using hf 2 _ rfl
  obtain ⟨x0,e0,_,_⟩:=DataW.trod_int Tryz.underlying3 g0;obtain ⟨x1,e1,_,_⟩:=DataW.trod_int Tryz.underlying3 g1;obtain ⟨x2,e2,_,_⟩:=DataW.trod_int Tryz.underlying3 g2;cases e0;cases e1;cases e2;exact ⟨⟨x0,x1,x2⟩,rfl⟩) h
theorem legsQ_of {fuel:Nat} {v:Value} {y:DataW H × List MemPlace} (h:DataW.trod enc Tryz.prog W base spare held fuel 25 [v] = some y):∃ A c,∃ l:List Leg,v = .slice A l.length c /\ RowsQ W A 2 LegR l :=
 rowsQ_of Tryz.underlying25 (by kernel_rfl) (by decide) (fun _ cs _ hl h=>by
  obtain ⟨xs,n,_,_,_,hxl,hf⟩:=DataW.trod_struct Tryz.underlying70 h;obtain ⟨y0,y1,rfl⟩:=listTwo hxl;obtain ⟨v0,v1,rfl⟩:=listTwo hl;have g0:DataW.trod enc Tryz.prog W base spare held n 3 [v0] = some y0:=by simpa [Value.cells,cellsOf3,cellsOf22,cellsOf23,cellsOf24,cellsOf25] using hf 0 _ rfl
  have g1:DataW.trod enc Tryz.prog W base spare held n 3 [v1] = some y1:=by simpa [Value.cells,cellsOf3,cellsOf22,cellsOf23,cellsOf24,cellsOf25] using hf 1 _ rfl
  obtain ⟨x0,e0,_,_⟩:=DataW.trod_int Tryz.underlying3 g0;obtain ⟨x1,e1,_,_⟩:=DataW.trod_int Tryz.underlying3 g1;cases e0;cases e1;exact ⟨⟨x0,x1⟩,rfl⟩) h
theorem meansQ_of {fuel:Nat} {v:Value} {y:DataW H × List MemPlace} (h:DataW.trod enc Tryz.prog W base spare held fuel 68 [v] = some y):∃ A c,∃ l:List Mean,v = .slice A l.length c /\ RowsQ W A 2 MeanQ l :=
 rowsQ_of Tryz.underlying68 (by kernel_rfl) (by decide) (fun _ cs _ hl h=>by
  obtain ⟨xs,n,_,_,_,hxl,hf⟩:=DataW.trod_struct Tryz.underlying67 h;obtain ⟨y0,y1,rfl⟩:=listTwo hxl;obtain ⟨v0,v1,rfl⟩:=listTwo hl;have g0:DataW.trod enc Tryz.prog W base spare held n 24 [v0] = some y0:=by simpa [Value.cells,cellsOf3,cellsOf22,cellsOf23,cellsOf24,cellsOf25] using hf 0 _ rfl
  have g1:DataW.trod enc Tryz.prog W base spare held n 24 [v1] = some y1:=by simpa [Value.cells,cellsOf3,cellsOf22,cellsOf23,cellsOf24,cellsOf25] using hf 1 _ rfl
  obtain ⟨A0,c0,l0,rfl,i0⟩:=intsQ_of g0;obtain ⟨A1,c1,l1,rfl,i1⟩:=intsQ_of g1;exact ⟨⟨l0,l1⟩,A0,c0,A1,c1,rfl,i0,i1⟩) h
theorem wordsQ_of {fuel:Nat} {v:Value} {y:DataW H × List MemPlace} (h:DataW.trod enc Tryz.prog W base spare held fuel 23 [v] = some y):∃ A c,∃ l:List (List Mean),v = .slice A l.length c /\ RowsQ W A 1 WordQ l :=
 rowsQ_of Tryz.underlying23 (by kernel_rfl) (by decide) (fun _ cs _ hl h=>by
  obtain ⟨v,rfl⟩:=listOne hl;obtain ⟨A,c,l,rfl,hi⟩:=meansQ_of h;exact ⟨l,A,c,rfl,hi⟩) h
theorem array5 {α:Type} {cs:Array α} (h:cs.size = 5):∃ c0 c1 c2 c3 c4,cs = #[c0,c1,c2,c3,c4]:=by
 obtain ⟨l⟩:=cs
 match l,h with
 | [c0,c1,c2,c3,c4],_=>exact ⟨c0,c1,c2,c3,c4,rfl⟩
set_option maxRecDepth 100000 in
theorem treatyQ_of {r:Reach} {b0:Nat} {v:Value} {d:DataW H} {p:List MemPlace} (hv:Value.okWide Tryz.prog W r b0 27 v) (h:DataW.Trod enc Tryz.prog W base spare held 27 v d p) :
  ∃ T:Treaty,∃ (a1 a2 a3 a4:Option Addr) (c1 c2 c3 c4:Nat),v = .agg #[.int .i64 T.places,.slice a1 T.ways.length c1,.slice a2 T.words.length c2,.slice a3 T.starts.length c3,.slice a4 T.legs.length c4] /\ TRepQ W T a1 a2 a3 a4:=by
 obtain ⟨cs,rfl,hsz⟩:=okWide_struct Tryz.underlying27 hv;obtain ⟨v0,v1,v2,v3,v4,rfl⟩:=array5 (hsz.trans cellsOf27);obtain ⟨fuel,hf⟩:=h;obtain ⟨xs,n,_,_,_,hxl,hf⟩:=DataW.trod_struct Tryz.underlying27 hf;obtain ⟨y0,y1,y2,y3,y4,rfl⟩:=listFive hxl;have g0:DataW.trod enc Tryz.prog W base spare held n 3 [v0] = some y0:=by simpa [Value.cells,cellsOf3,cellsOf22,cellsOf23,cellsOf24,cellsOf25] using hf 0 _ rfl
 have g1:DataW.trod enc Tryz.prog W base spare held n 22 [v1] = some y1:=by simpa [Value.cells,cellsOf3,cellsOf22,cellsOf23,cellsOf24,cellsOf25] using hf 1 _ rfl
 have g2:DataW.trod enc Tryz.prog W base spare held n 23 [v2] = some y2:=by simpa [Value.cells,cellsOf3,cellsOf22,cellsOf23,cellsOf24,cellsOf25] using hf 2 _ rfl
 have g3:DataW.trod enc Tryz.prog W base spare held n 24 [v3] = some y3:=by simpa [Value.cells,cellsOf3,cellsOf22,cellsOf23,cellsOf24,cellsOf25] using hf 3 _ rfl
 have g4:DataW.trod enc Tryz.prog W base spare held n 25 [v4] = some y4:=by simpa [Value.cells,cellsOf3,cellsOf22,cellsOf23,cellsOf24,cellsOf25] using hf 4 _ rfl
 obtain ⟨x0,e0,_,_⟩:=DataW.trod_int Tryz.underlying3 g0;obtain ⟨A1,d1,l1,rfl,i1⟩:=waysQ_of g1;obtain ⟨A2,d2,l2,rfl,i2⟩:=wordsQ_of g2;obtain ⟨A3,d3,l3,rfl,i3⟩:=intsQ_of g3;obtain ⟨A4,d4,l4,rfl,i4⟩:=legsQ_of g4;cases e0;exact ⟨⟨x0,l1,l2,l3,l4⟩,A1,A2,A3,A4,d1,d2,d3,d4,rfl,i1,i2,i3,i4⟩
end
end Go.Proofs
end
section
/- A region that draws its order,by facts that may say which operations are done. -/
namespace Go
structure HeldF (ops:Array Oper) (Fact:(Nat -> Bool) -> Nat -> Value -> World -> Prop) (Wd:(Nat -> Bool) -> Act -> World -> Prop) (a0:Act) (done:Nat -> Bool) (a:Act) (w:World):Prop where
 wd:Wd done a w
 size:a.tmps.size = a0.tmps.size
 defers:a.defers = a0.defers
 closed:∀ i o,ops[i]? = some o -> done i = true -> ∀ j ∈ Region.preds o,done j = true
 old:∀ s,(∀ i o,ops[i]? = some o -> o.dst = some s -> done i = false) -> a.eval (.tmp s) = a0.eval (.tmp s)
 fact:∀ (i:Nat) (o:Oper) (s:Nat),ops[i]? = some o -> o.dst = some s -> done i = true -> Fact done i (a.eval (.tmp s)) w
section
variable {P:Program} {ops:Array Oper} {Q:Exit -> Act -> World -> Prop} {Fact:(Nat -> Bool) -> Nat -> Value -> World -> Prop} {Wd:(Nat -> Bool) -> Act -> World -> Prop} {a0:Act}
theorem HeldF.put {done:Nat -> Bool} {a:Act} {w w':World} {i:Nat} {o:Oper} {v:Value} (h:HeldF ops Fact Wd a0 done a w) (ho:ops[i]? = some o) (hd:done i = false) (hp:∀ j ∈ Region.preds o,done j = true)
  (hdst:∀ (i j:Nat) (oi oj:Oper) (s:Nat),ops[i]? = some oi -> ops[j]? = some oj -> oi.dst = some s -> oj.dst = some s -> i = j) (hin:∀ (i:Nat) (o:Oper) (s:Nat),ops[i]? = some o -> o.dst = some s -> s < a0.tmps.size)
  (hf:Fact (upd done i) i v w') (hw:Wd (upd done i) (a.put o.dst v) w') (hk:∀ (j:Nat) (oj:Oper) (s:Nat),ops[j]? = some oj -> oj.dst = some s -> done j = true -> Fact done j (a.eval (.tmp s)) w -> Fact (upd done i) j (a.eval (.tmp s)) w'):HeldF ops Fact Wd a0 (upd done i) (a.put o.dst v) w':=by
 refine ⟨hw,?_,?_,fun k ok hk' hdk j hj=>?_,fun s hs=>?_,fun k ok s hk' hs hdk=>?_⟩
 ·rw [<- h.size];unfold Act.put;split <;> simp
 ·rw [<- h.defers];unfold Act.put;split <;> rfl
 ·unfold upd at hdk ⊢;by_cases e:j = i
  ·rw [if_pos e]
  ·rw [if_neg e];by_cases e2:k = i
   ·subst e2;rw [ho] at hk';cases hk';exact hp j hj
   ·rw [if_neg e2] at hdk;exact h.closed k ok hk' hdk j hj
 ·have hne:∀ d,o.dst = some d -> (Operand.tmp s) ≠ .tmp d:=fun d hd' e=>by
   cases e;have:=hs i o ho hd';simp [upd] at this
  rw [Act.eval_put hne];refine h.old s fun k ok hk' hs'=>?_
  have:=hs k ok hk' hs';unfold upd at this;split at this
  ·cases this
  ·exact this
 ·by_cases e:k = i
  ·subst e;rw [ho] at hk';cases hk';rw [hs,Act.eval_put_same _ _ _ (by rw [h.size];exact hin k o s ho hs)];exact hf
  ·unfold upd at hdk;rw [if_neg e] at hdk
   have hne:∀ d,o.dst = some d -> (Operand.tmp s) ≠ .tmp d:=fun d hd' e2=>by
    cases e2;exact e (hdst k i ok o s hk' ho hs hd')
   rw [Act.eval_put hne];exact hk k ok s hk' hs hdk (h.fact k ok s hk' hs hdk)
theorem wpAny_factsF (hg:∀ (i:Nat) (o:Oper),ops[i]? = some o -> o.guard = none) (hdst:∀ (i j:Nat) (oi oj:Oper) (s:Nat),ops[i]? = some oi -> ops[j]? = some oj -> oi.dst = some s -> oj.dst = some s -> i = j) (hin:∀ (i:Nat) (o:Oper) (s:Nat),ops[i]? = some o -> o.dst = some s -> s < a0.tmps.size)
  (hlt:∀ (i:Nat) (o:Oper),ops[i]? = some o -> ∀ j ∈ Region.preds o,j < i)
  (step:∀ (i:Nat) (o:Oper),ops[i]? = some o -> ∀ (done:Nat -> Bool) (a:Act) (w:World),HeldF ops Fact Wd a0 done a w -> done i = false -> (∀ j ∈ Region.preds o,done j = true) -> ∀ K:Act -> World -> Prop,
   (∀ (v:Value) (w':World),Fact (upd done i) i v w' -> Wd (upd done i) (a.put o.dst v) w' -> (∀ (j:Nat) (oj:Oper) (s:Nat),ops[j]? = some oj -> oj.dst = some s -> done j = true -> Fact done j (a.eval (.tmp s)) w -> Fact (upd done i) j (a.eval (.tmp s)) w') -> K (a.put o.dst v) w') -> Oper.wp P o a w K Q)
  (fin:∀ (done:Nat -> Bool) (a:Act) (w:World),(∀ i,i < ops.size -> done i = true) -> HeldF ops Fact Wd a0 done a w -> Q .normal a w) :
  ∀ (fuel:Nat) (listed:Array Bool) (a:Act) (w:World),listed.size = ops.size -> HeldF ops Fact Wd a0 (dn listed) a w -> (unl ops (dn listed)).length <= fuel -> wpAny P .any ops Q fuel listed a w
 | 0,listed,a,w,hs,h,hf=>by
  have hd:∀ i,i < ops.size -> dn listed i = true:=fun i hi=>by
   cases hd:dn listed i with
   | true=>rfl
   | false =>
    have:i ∈ unl ops (dn listed):=List.mem_filter.2 ⟨List.mem_range.2 hi,by simp [hd]⟩;have hz:unl ops (dn listed) = []:=List.eq_nil_of_length_eq_zero (by omega);rw [hz] at this;cases this
  refine ⟨?_,fin _ a w hd h⟩
  cases hr:Region.ready .any ops listed with
  | nil=>rfl
  | cons i r =>
   obtain ⟨o,ho,h1,_⟩:=mem_ready' rfl hs (show i ∈ Region.ready .any ops listed by rw [hr];simp);rw [hd i (Array.getElem?_eq_some_iff.1 ho).1] at h1;cases h1
 | fuel + 1,listed,a,w,hs,h,hf=>by
  refine ⟨fun hr=>fin _ a w (all_done hs hlt hr) h,fun i hi=>?_⟩;obtain ⟨o,ho,h1,h2⟩:=mem_ready' rfl hs hi;have hio:=(Array.getElem?_eq_some_iff.1 ho).1;unfold wpOp;simp only [ho];have hw:Region.wanted o (yielded ops a.tmps) = true:=by simp [Region.wanted,hg i o ho]
  rw [if_pos hw];refine .inl (step i o ho _ a w h h1 h2 _ fun v w' hf' hw' hk=>?_);refine wpAny_factsF hg hdst hin hlt step fin fuel _ _ _ (by simpa using hs) ?_ ?_
  ·rw [dn_set (by omega)];exact h.put ho h1 h2 hdst hin hf' hw' hk
  ·rw [dn_set (by omega)];have:=unl_lt (ops:=ops) hio h1;omega
theorem wp_region_factsF {id:Nat} {xs:List Oper} {w:World} (hm:P.follows .mixedOrders = true) (n:Nat) (hn:a0.tmps.size = n) (hB:factsB xs n = true)
  (Fact:(Nat -> Bool) -> Nat -> Value -> World -> Prop) (Wd:(Nat -> Bool) -> Act -> World -> Prop) (h0:Wd (fun _=>false) a0 w.drew)
  (step:∀ (i:Nat) (o:Oper),xs[i]? = some o -> ∀ (done:Nat -> Bool) (a:Act) (w:World),HeldF xs.toArray Fact Wd a0 done a w -> done i = false -> (∀ j ∈ Region.preds o,done j = true) -> ∀ K:Act -> World -> Prop,
   (∀ (v:Value) (w':World),Fact (upd done i) i v w' -> Wd (upd done i) (a.put o.dst v) w' -> (∀ (j:Nat) (oj:Oper) (s:Nat),xs[j]? = some oj -> oj.dst = some s -> done j = true -> Fact done j (a.eval (.tmp s)) w -> Fact (upd done i) j (a.eval (.tmp s)) w') -> K (a.put o.dst v) w') -> Oper.wp P o a w K Q)
  (fin:∀ (done:Nat -> Bool) (a:Act) (w:World),(∀ i,i < xs.length -> done i = true) -> HeldF xs.toArray Fact Wd a0 done a w -> Q .normal a w):(Code.region id xs.toArray true).wp P Q a0 w:=by
 unfold factsB at hB;rw [Bool.and_eq_true,Bool.and_eq_true,Bool.and_eq_true] at hB;obtain ⟨⟨⟨h1,h2⟩,h3⟩,h4⟩:=hB;refine wp_region_any hm ?_
 have e0:dn (Array.replicate xs.toArray.size false) = fun _=>false:=by
  funext i
  unfold dn;rw [Array.getD_eq_getD_getElem?,Array.getElem?_replicate];split <;> rfl
 refine wpAny_factsF (Fact:=Fact) (Wd:=Wd) (a0:=a0) (fun i o ho=>?_) (fun i j oi oj s hi hj=>nodup_dst (of_decide_eq_true h2) i j oi oj s (by simpa using hi) (by simpa using hj)) (fun i o s ho hs=>?_) (fun i o ho j hj=>?_)
  (fun i o ho done a w h hd hp K hK=>step i o (by simpa using ho) done a w h hd hp K (fun v w' h1 h2 h3=>hK v w' h1 h2 (fun j oj s hj=>h3 j oj s (by simpa using hj)))) (fun done a w hd=>fin done a w (by simpa using hd)) _ _ _ _ (by simp) ?_ ?_
 ·have:=List.all_eq_true.1 h1 o (List.mem_of_getElem? (by simpa using ho));simpa using this
 ·have:=List.all_eq_true.1 h3 o (List.mem_of_getElem? (by simpa using ho));rw [hs] at this;rw [hn];simpa using this
 ·have ho':xs[i]? = some o:=by simpa using ho
  have:=List.all_eq_true.1 h4 i (List.mem_range.2 (List.getElem?_eq_some_iff.1 ho').1);rw [ho'] at this;have:=List.all_eq_true.1 this j hj;simpa using this
 ·rw [e0];exact ⟨h0,rfl,rfl,(fun i o _ h=>by cases h),(fun s _=>rfl),(fun i o s _ _ h=>by cases h)⟩
 ·have:(unl xs.toArray (dn (Array.replicate xs.toArray.size false))).length <= (List.range xs.toArray.size).length:=List.length_filter_le _ _;simpa using this
end
end Go
end
