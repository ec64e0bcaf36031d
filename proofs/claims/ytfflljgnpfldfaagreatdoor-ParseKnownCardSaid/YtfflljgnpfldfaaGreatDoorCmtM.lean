/-
  Plain: the four comments: their tokens are passed over.
-/
import Derived.Laws.CopyOwn
import Derived.Test.YtfflljgnpfldfaaGreatDoorPtsM
set_option linter.all false
set_option maxHeartbeats 128000000
namespace Go.Proofs.YtfflljgnpfldfaaGreatDoor
open Go.RowKit Go.Shelf
theorem adT {O:List UInt8} {T:List aw} {d:aS} {r:List aw} (hw:gB O=.good T) (hd:mq T=.ok d r):oy d 1048577∧tq d∧jX O=.good (bI d):=by
 obtain⟨a1,a2,-,-⟩:=QT hw;have hf:jX O=match zY T with
  | .ok l _=>.good l
  | .bad no l c=>.bad (eH no l c):=by unfold jX;rw[hw];rfl
 have BU:=VZ T;rw[BU,hd]at hf;have hb:=adU hd (Mu hw);exact⟨⟨hb.DN,hb.xu,hb.msg,by have:=hb.xw;omega,hb.tab⟩,alb hd,hf⟩
theorem alc (s:List UInt8) :
  (∃ T x,jX s=.bad (.iface T x))∨(∃ T d r,gB s=.good T∧mq T=.ok d r∧s.length≤1048576):=by
 cases hw:gB s with
 | bad v=>
  obtain⟨T,x,rfl⟩:=adV hw;exact .inl ⟨T,x,by unfold jX;rw[hw]⟩
 | good T=>
  obtain⟨a1,a2,-,-⟩:=QT hw;have hf:jX s=match zY T with
   | .ok l _=>.good l
   | .bad no l c=>.bad (eH no l c):=by unfold jX;rw[hw];rfl
  have BU:=VZ T;rw[BU]at hf;cases hd:mq T with
  | bad no L C=>
   rw[hd]at hf;exact .inl ⟨_,_,hf⟩
  | ok d t=>exact .inr ⟨T,d,t,rfl,hd,a1⟩
def akD:List UInt8:=[32,67,77,95,32,59]
def akE:List UInt8:=[32,67,77,95,32,34,120,34,32,59]
def akF:List UInt8:=[32,67,77,95,32,66,79,95,32,50,53,54,32,34,97,59,98,34,32,44,32,40,32,64,48,43,32,59]
def akG:List UInt8:=[32,67,77,95,32,67,77,95,32,86,69,82,83,73,79,78,32,66,85,95,32,58,32,49,46,53,32,59,32,67,77,95,32,83,71,95,32,77,32,109,48,32,59]
def I9:Nat→List UInt8
 | 0=>akD
 | 1=>akE
 | 2=>akF
 | _=>akG
end Go.Proofs.YtfflljgnpfldfaaGreatDoor
