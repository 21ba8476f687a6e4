/- Rules: '==' and '!=' on structs of numbers, bools and strings. Conditions: none. -/
import Derived.Test.YthidohmobbomfaaGreatGxX
import Derived.Laws.StructEq
import Derived.ChangeKeysEq
set_option linter.unusedVariables false
set_option linter.unusedSimpArgs false
namespace Go.Gx
open Go.RowKit
section
variable {P:Program} {w:World} {d:Nat} {xs ys:Array Value} {f:Field} {fs:List Field} {r:Bool}
end
section
variable {P:Program} {w:World} {n:Nat} {l:Env} {ops:Array Oper} {K:Env→World→Prop} {os:List Oper} {d:Nat} {T U:TypeId} {pos:String} {aft:Array Edge} {x y:Operand}
end
section
variable {D:List Nat} {w0 w:World}
theorem Ctx.f1 {a0 a1:Item} {l:List Item} (h:Ctx D w0 w (a0::a1::l)):Ctx D w0 w (a1::a0::l):=h.front 1 rfl
theorem Ctx.f2 {a0 a1 a2:Item} {l:List Item} (h:Ctx D w0 w (a0::a1::a2::l)):Ctx D w0 w (a2::a0::a1::l):=h.front 2 rfl
theorem Ctx.f3 {a0 a1 a2 a3:Item} {l:List Item} (h:Ctx D w0 w (a0::a1::a2::a3::l)):Ctx D w0 w (a3::a0::a1::a2::l):=h.front 3 rfl
theorem Ctx.f4 {a0 a1 a2 a3 a4:Item} {l:List Item} (h:Ctx D w0 w (a0::a1::a2::a3::a4::l)):Ctx D w0 w (a4::a0::a1::a2::a3::l):=h.front 4 rfl
theorem Ctx.f5 {a0 a1 a2 a3 a4 a5:Item} {l:List Item} (h:Ctx D w0 w (a0::a1::a2::a3::a4::a5::l)):Ctx D w0 w (a5::a0::a1::a2::a3::a4::l):=h.front 5 rfl
theorem Ctx.f6 {a0 a1 a2 a3 a4 a5 a6:Item} {l:List Item} (h:Ctx D w0 w (a0::a1::a2::a3::a4::a5::a6::l)):Ctx D w0 w (a6::a0::a1::a2::a3::a4::a5::l):=h.front 6 rfl
theorem Ctx.f7 {a0 a1 a2 a3 a4 a5 a6 a7:Item} {l:List Item} (h:Ctx D w0 w (a0::a1::a2::a3::a4::a5::a6::a7::l)):Ctx D w0 w (a7::a0::a1::a2::a3::a4::a5::a6::l):=h.front 7 rfl
theorem Ctx.f8 {a0 a1 a2 a3 a4 a5 a6 a7 a8:Item} {l:List Item} (h:Ctx D w0 w (a0::a1::a2::a3::a4::a5::a6::a7::a8::l)):Ctx D w0 w (a8::a0::a1::a2::a3::a4::a5::a6::a7::l):=h.front 8 rfl
theorem Ctx.f9 {a0 a1 a2 a3 a4 a5 a6 a7 a8 a9:Item} {l:List Item} (h:Ctx D w0 w (a0::a1::a2::a3::a4::a5::a6::a7::a8::a9::l)):Ctx D w0 w (a9::a0::a1::a2::a3::a4::a5::a6::a7::a8::l):=h.front 9 rfl
theorem Ctx.f20 {a0 a1 a2 a3 a4 a5 a6 a7 a8 a9 a10 a11 a12 a13 a14 a15 a16 a17 a18 a19 a20:Item} {l:List Item} (h:Ctx D w0 w (a0::a1::a2::a3::a4::a5::a6::a7::a8::a9::a10::a11::a12::a13::a14::a15::a16::a17::a18::a19::a20::l)):Ctx D w0 w (a20::a0::a1::a2::a3::a4::a5::a6::a7::a8::a9::a10::a11::a12::a13::a14::a15::a16::a17::a18::a19::l):=h.front 20 rfl
theorem Ctx.h1 {a0:Item} {l:List Item} (h:Ctx D w0 w (a0::l)):Ctx D w0 w [a0]:=h.headN 1
theorem Ctx.h2 {a0 a1:Item} {l:List Item} (h:Ctx D w0 w (a0::a1::l)):Ctx D w0 w [a0,a1]:=h.headN 2
theorem Ctx.h3 {a0 a1 a2:Item} {l:List Item} (h:Ctx D w0 w (a0::a1::a2::l)):Ctx D w0 w [a0,a1,a2]:=h.headN 3
theorem Ctx.h4 {a0 a1 a2 a3:Item} {l:List Item} (h:Ctx D w0 w (a0::a1::a2::a3::l)):Ctx D w0 w [a0,a1,a2,a3]:=h.headN 4
theorem Ctx.h5 {a0 a1 a2 a3 a4:Item} {l:List Item} (h:Ctx D w0 w (a0::a1::a2::a3::a4::l)):Ctx D w0 w [a0,a1,a2,a3,a4]:=h.headN 5
theorem Ctx.h6 {a0 a1 a2 a3 a4 a5:Item} {l:List Item} (h:Ctx D w0 w (a0::a1::a2::a3::a4::a5::l)):Ctx D w0 w [a0,a1,a2,a3,a4,a5]:=h.headN 6
theorem Ctx.h7 {a0 a1 a2 a3 a4 a5 a6:Item} {l:List Item} (h:Ctx D w0 w (a0::a1::a2::a3::a4::a5::a6::l)):Ctx D w0 w [a0,a1,a2,a3,a4,a5,a6]:=h.headN 7
theorem Ctx.h8 {a0 a1 a2 a3 a4 a5 a6 a7:Item} {l:List Item} (h:Ctx D w0 w (a0::a1::a2::a3::a4::a5::a6::a7::l)):Ctx D w0 w [a0,a1,a2,a3,a4,a5,a6,a7]:=h.headN 8
theorem Ctx.h9 {a0 a1 a2 a3 a4 a5 a6 a7 a8:Item} {l:List Item} (h:Ctx D w0 w (a0::a1::a2::a3::a4::a5::a6::a7::a8::l)):Ctx D w0 w [a0,a1,a2,a3,a4,a5,a6,a7,a8]:=h.headN 9
theorem Ctx.h10 {a0 a1 a2 a3 a4 a5 a6 a7 a8 a9:Item} {l:List Item} (h:Ctx D w0 w (a0::a1::a2::a3::a4::a5::a6::a7::a8::a9::l)):Ctx D w0 w [a0,a1,a2,a3,a4,a5,a6,a7,a8,a9]:=h.headN 10
theorem Ctx.h11 {a0 a1 a2 a3 a4 a5 a6 a7 a8 a9 a10:Item} {l:List Item} (h:Ctx D w0 w (a0::a1::a2::a3::a4::a5::a6::a7::a8::a9::a10::l)):Ctx D w0 w [a0,a1,a2,a3,a4,a5,a6,a7,a8,a9,a10]:=h.headN 11
theorem Ctx.h12 {a0 a1 a2 a3 a4 a5 a6 a7 a8 a9 a10 a11:Item} {l:List Item} (h:Ctx D w0 w (a0::a1::a2::a3::a4::a5::a6::a7::a8::a9::a10::a11::l)):Ctx D w0 w [a0,a1,a2,a3,a4,a5,a6,a7,a8,a9,a10,a11]:=h.headN 12
theorem Ctx.h0 {l:List Item} (h:Ctx D w0 w l):Ctx D w0 w []:=h.headN 0
end
section
variable {P:Program} {n:Nat} {l:Env} {ops:Array Oper} {K:Env→World→Prop} {w:World} {listed:Array Bool} {f:Nat} {o:Oper}
theorem WA_tk (i:Nat) (hb:(Region.noSelect ops&&(Region.free .any ops listed i&&(Region.ready .any ops listed).contains i))=true) (ho:ops[i]?=some o) (hg:o.guard=none) (hfl:Fl P l o)
  (h:WL P n ops (fun l' w'=>WA P n ops K f (listed.setIfInBounds i true) l' w') [o] l w):WA P n ops K (f+1) listed l w:=by
 simp only [Bool.and_eq_true] at hb
 exact WA_take i ho hb.1 hb.2.1 hb.2.2 hg hfl h
theorem WA_sk (i:Nat) {d:Nat} {j:Nat} {want:Bool} {t:Nat} {u:Value} (hb:(Region.noSelect ops&&(Region.free .any ops listed i&&(Region.ready .any ops listed).contains i))=true) (ho:ops[i]?=some o)
  (hg:o.guard=some (j,want)) (hj:((ops[j]?).bind (·.dst))=some t) (ht:look l t=some u) (hu:u≠.bool want) (hd:o.dst=some d) (hdn:Nat.blt d n=true)
  (h:WA P n ops K f (listed.setIfInBounds i true) ((d,undef)::l) w):WA P n ops K (f+1) listed l w:=by
 simp only [Bool.and_eq_true] at hb
 exact WA_skip i ho hb.1 hb.2.1 hb.2.2 hg hj ht hu hd hdn h
end
end Go.Gx
