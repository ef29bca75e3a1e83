/- A part of the proof, made small by a program: Qx0, Arg. -/
import Derived.ArgAppend
import Derived.Below
import Derived.BigQuiet
import Derived.ChangeArms
import Derived.DataReads
import Derived.Deep.AppendLies
import Derived.Deep.CutBlock
import Derived.Deep.DeepCutAuto
import Derived.Deep.Draws
import Derived.Deep.LoopGhost
import Derived.Deep.OwnRows
import Derived.Deep.QuietTactic
import Derived.Deep.RegionHeld3
import Derived.Deep.Slices
import Derived.KernelRfl
import Derived.Laws.BitsLemmas
import Derived.Laws.BytesArg
import Derived.Laws.IdiomCopy
import Derived.Laws.MakeOwn
import Derived.Laws.OwnMore
import Derived.Laws.Rows
import Derived.Laws.Slices
import Derived.Lib.AppendStr
import Derived.Lib.ConvBytes
import Derived.Maps.AppendAt
import Derived.OrdersHeld
import Derived.OwnWalk
import Derived.RowKit
import Derived.RowKit3
import Derived.Tactics
import Derived.Test.YtbklmnieakefnaaProg
import Derived.Test.YtbklmnieakefnaaRows
import Derived.WalkKit
import Derived.WideLaws
import Derived.Test.YtbklmnieakefnaaVf0
namespace Go.Proofs.Ytbklmnieakefnaa.Q
open Go.RowKit Go.Proofs.YtbklmnieakefnaaW.PrintWords Go.Proofs.YtbklmnieakefnaaW.PrintLast Go.Proofs.YtbklmnieakefnaaW.PrintMore

set_option linter.unusedVariables false
set_option linter.unusedSimpArgs false
def errW : Option Int → Value
 | none => .nilIface
 | some c => .iface 0 (.int .i64 c)
theorem Z16 : errW none = .nilIface:=rfl
theorem Z15 (c : Int) : errW (some c) = .iface 0 (.int .i64 c):=rfl
theorem info3 : (Try.prog.info? 3).map (fun i => (i.zero,i.size,i.bytes)) = some (some (.int .i64 0),1,8):=by kernel_rfl
theorem info4 : (Try.prog.info? 4).map (fun i => (i.zero,i.size,i.bytes)) = some (some (.bool false),1,1):=by kernel_rfl
theorem info24 : (Try.prog.info? 24).map (fun i => (i.zero,i.size,i.bytes)) = some (some (.agg #[(.string ⟨#[]⟩),(.int .i64 0),(.int .i64 0),(.int .i64 0),(.slice none 0 0)]),5,64):=by kernel_rfl
theorem info26 : (Try.prog.info? 26).map (fun i => (i.zero,i.size,i.bytes)) = some (some (.slice none 0 0),1,24):=by kernel_rfl
theorem info34 : (Try.prog.info? 34).map (fun i => (i.zero,i.size,i.bytes)) = some (some (.slice none 0 0),1,24):=by kernel_rfl
theorem info45 : (Try.prog.info? 45).map (fun i => (i.zero,i.size,i.bytes)) = some (some (.agg #[(.slice none 0 0),(.int .i64 0),(.int .i64 0),(.slice none 0 0)]),4,64):=by kernel_rfl
def rd_L1 (xs : List (List Int)) (i : Int) : (List Int):=xs.getD i.toNat ([] : List Int)
theorem at_L1 {w : World} {A : Option Addr} {n : Nat} {xs : List (List Int)} (h : Kd.C (Kd.slice 3 (Kd.int .i64)) w A n xs) (i : Int) (h0 : 0 ≤ i) (h1 : i < n) : ∃ ad A0 c0,A = some ad ∧ w.cell? (ad.add i.toNat) = some (.slice A0 (rd_L1 xs i).length c0) ∧ (rd_L1 xs i).length ≤ c0 ∧ (Kd.int .i64).C w A0 (rd_L1 xs i).length (rd_L1 xs i):=by
 obtain ⟨ad,c,e,_,hK,hc0⟩:=Kd.C_get h ([] : List Int) i h0 h1;have hc : ∀ j u,c[j]? = some u → w.cell? (ad.add (i.toNat * 1 + j)) = some u:=hc0;obtain ⟨A0,c0,rfl,l0,g0⟩:=hK;exact ⟨ad,A0,c0,e,by have hq:=hc 0 _ rfl;rwa [Nat.mul_one,Nat.add_zero] at hq,l0,g0⟩
structure S59 where
 f0 : Int
 f1 : Int
 f2 : (List Int)
 f3 : Int
 f4 : Int
 f5 : Int
 f6 : (List Int)
def k59 : Kd S59:=Kd.iso (Kd.pair (Kd.int .i64) (Kd.pair (Kd.int .i64) (Kd.pair (Kd.slice 3 (Kd.int .i64)) (Kd.pair (Kd.int .i32) (Kd.pair (Kd.int .i64) (Kd.pair (Kd.int .i64) (Kd.slice 3 (Kd.int .i64)))))))) (fun x : S59 => (x.f0,x.f1,x.f2,x.f3,x.f4,x.f5,x.f6))
theorem k59_heap : Kd.Heap k59:=Kd.heap_iso _ (Kd.heap_pair (Kd.heap_int .i64) (Kd.heap_pair (Kd.heap_int .i64) (Kd.heap_pair (Kd.heap_slice 3 (Kd.heap_int .i64)) (Kd.heap_pair (Kd.heap_int .i32) (Kd.heap_pair (Kd.heap_int .i64) (Kd.heap_pair (Kd.heap_int .i64) (Kd.heap_slice 3 (Kd.heap_int .i64))))))))
theorem k59_mk (w : World) (x : S59) {A2 : Option Addr} {c2 : Nat} (l2 : x.f2.length ≤ c2) (g2 : (Kd.int .i64).C w A2 x.f2.length x.f2) {A6 : Option Addr} {c6 : Nat} (l6 : x.f6.length ≤ c6) (g6 : (Kd.int .i64).C w A6 x.f6.length x.f6) : k59.K w x [.int .i64 x.f0,.int .i64 x.f1,.slice A2 x.f2.length c2,.int .i32 x.f3,.int .i64 x.f4,.int .i64 x.f5,.slice A6 x.f6.length c6]:=⟨[.int .i64 x.f0],[.int .i64 x.f1,.slice A2 x.f2.length c2,.int .i32 x.f3,.int .i64 x.f4,.int .i64 x.f5,.slice A6 x.f6.length c6],rfl,rfl,⟨[.int .i64 x.f1],[.slice A2 x.f2.length c2,.int .i32 x.f3,.int .i64 x.f4,.int .i64 x.f5,.slice A6 x.f6.length c6],rfl,rfl,⟨[.slice A2 x.f2.length c2],[.int .i32 x.f3,.int .i64 x.f4,.int .i64 x.f5,.slice A6 x.f6.length c6],rfl,⟨A2,c2,rfl,l2,g2⟩,⟨[.int .i32 x.f3],[.int .i64 x.f4,.int .i64 x.f5,.slice A6 x.f6.length c6],rfl,rfl,⟨[.int .i64 x.f4],[.int .i64 x.f5,.slice A6 x.f6.length c6],rfl,rfl,⟨[.int .i64 x.f5],[.slice A6 x.f6.length c6],rfl,rfl,⟨A6,c6,rfl,l6,g6⟩⟩⟩⟩⟩⟩⟩
structure S45 where
 f0 : (List S59)
 f1 : Int
 f2 : Int
 f3 : (List Int)
def z45 : S45:=⟨([] : List S59),(0 : Int),(0 : Int),([] : List Int)⟩
def k45 : Kd S45:=Kd.iso (Kd.pair (Kd.slice 59 k59) (Kd.pair (Kd.int .i64) (Kd.pair (Kd.int .i64) (Kd.slice 3 (Kd.int .i64))))) (fun x : S45 => (x.f0,x.f1,x.f2,x.f3))
theorem k45_heap : Kd.Heap k45:=Kd.heap_iso _ (Kd.heap_pair (Kd.heap_slice 59 k59_heap) (Kd.heap_pair (Kd.heap_int .i64) (Kd.heap_pair (Kd.heap_int .i64) (Kd.heap_slice 3 (Kd.heap_int .i64)))))
theorem k45_open {w : World} {x : S45} {cs : List Value} (h : k45.K w x cs) : ∃ A0 c0 A3 c3,cs = [.slice A0 x.f0.length c0,.int .i64 x.f1,.int .i64 x.f2,.slice A3 x.f3.length c3] ∧ x.f0.length ≤ c0 ∧ k59.C w A0 x.f0.length x.f0 ∧ x.f3.length ≤ c3 ∧ (Kd.int .i64).C w A3 x.f3.length x.f3:=by
 obtain ⟨_,_,rfl,⟨A0,c0,rfl,l0,g0⟩,⟨_,_,rfl,rfl,⟨_,_,rfl,rfl,⟨A3,c3,rfl,l3,g3⟩⟩⟩⟩:=h;exact ⟨A0,c0,A3,c3,rfl,l0,g0,l3,g3⟩
theorem k45_mk (w : World) (x : S45) {A0 : Option Addr} {c0 : Nat} (l0 : x.f0.length ≤ c0) (g0 : k59.C w A0 x.f0.length x.f0) {A3 : Option Addr} {c3 : Nat} (l3 : x.f3.length ≤ c3) (g3 : (Kd.int .i64).C w A3 x.f3.length x.f3) : k45.K w x [.slice A0 x.f0.length c0,.int .i64 x.f1,.int .i64 x.f2,.slice A3 x.f3.length c3]:=⟨[.slice A0 x.f0.length c0],[.int .i64 x.f1,.int .i64 x.f2,.slice A3 x.f3.length c3],rfl,⟨A0,c0,rfl,l0,g0⟩,⟨[.int .i64 x.f1],[.int .i64 x.f2,.slice A3 x.f3.length c3],rfl,rfl,⟨[.int .i64 x.f2],[.slice A3 x.f3.length c3],rfl,rfl,⟨A3,c3,rfl,l3,g3⟩⟩⟩⟩
theorem k45_openF {W : World} {ok : Nat → Prop} {x : S45} {cs : List Value} (h : Kd.FK k45 W ok x cs) : ∃ A0 c0 A3 c3,cs = [.slice A0 x.f0.length c0,.int .i64 x.f1,.int .i64 x.f2,.slice A3 x.f3.length c3] ∧ x.f0.length ≤ c0 ∧ Kd.F k59 W ok A0 x.f0.length x.f0 ∧ x.f3.length ≤ c3 ∧ Kd.F (Kd.int .i64) W ok A3 x.f3.length x.f3:=by
 obtain ⟨A0,c0,A3,c3,rfl,l0,_,l3,_⟩:=k45_open (Kd.FK_now h);exact ⟨A0,c0,A3,c3,rfl,l0,(fun W' hW => by obtain ⟨A0_,c0_,A3_,c3_,he,l0_,g0_,l3_,g3_⟩:=k45_open (h W' hW);injection (Option.some.inj (show some (Value.slice A0 x.f0.length c0) = some (Value.slice A0_ x.f0.length c0_) from congrArg (fun l => l[0]?) he)) with ha_ _ _;rw [ha_];exact g0_),l3,(fun W' hW => by obtain ⟨A0_,c0_,A3_,c3_,he,l0_,g0_,l3_,g3_⟩:=k45_open (h W' hW);injection (Option.some.inj (show some (Value.slice A3 x.f3.length c3) = some (Value.slice A3_ x.f3.length c3_) from congrArg (fun l => l[3]?) he)) with ha_ _ _;rw [ha_];exact g3_)⟩
theorem k45_mkF (W : World) (ok : Nat → Prop) (x : S45) {A0 : Option Addr} {c0 : Nat} (l0 : x.f0.length ≤ c0) (g0 : Kd.F k59 W ok A0 x.f0.length x.f0) {A3 : Option Addr} {c3 : Nat} (l3 : x.f3.length ≤ c3) (g3 : Kd.F (Kd.int .i64) W ok A3 x.f3.length x.f3) : Kd.FK k45 W ok x [.slice A0 x.f0.length c0,.int .i64 x.f1,.int .i64 x.f2,.slice A3 x.f3.length c3]:=fun W2 hW => k45_mk W2 x l0 (g0 W2 hW) l3 (g3 W2 hW)
def rd_T45 (xs : List S45) (i : Int) : S45:=xs.getD i.toNat z45
theorem at_T45 {w : World} {A : Option Addr} {n : Nat} {xs : List S45} (h : Kd.C k45 w A n xs) (i : Int) (h0 : 0 ≤ i) (h1 : i < n) : ∃ ad A0 c0 A3 c3,A = some ad ∧ w.cell? (ad.add (i.toNat * 4)) = some (.slice A0 (rd_T45 xs i).f0.length c0) ∧ w.cell? ⟨(ad.add (i.toNat * 4)).block,(ad.add (i.toNat * 4)).off + 1,none⟩ = some (.int .i64 (rd_T45 xs i).f1) ∧ w.cell? ⟨(ad.add (i.toNat * 4)).block,(ad.add (i.toNat * 4)).off + 2,none⟩ = some (.int .i64 (rd_T45 xs i).f2) ∧ w.cell? ⟨(ad.add (i.toNat * 4)).block,(ad.add (i.toNat * 4)).off + 3,none⟩ = some (.slice A3 (rd_T45 xs i).f3.length c3) ∧ (rd_T45 xs i).f0.length ≤ c0 ∧ k59.C w A0 (rd_T45 xs i).f0.length (rd_T45 xs i).f0 ∧ (rd_T45 xs i).f3.length ≤ c3 ∧ (Kd.int .i64).C w A3 (rd_T45 xs i).f3.length (rd_T45 xs i).f3:=by
 obtain ⟨ad,c,e,_,hK,hc0⟩:=Kd.C_get h z45 i h0 h1;have hc : ∀ j u,c[j]? = some u → w.cell? (ad.add (i.toNat * 4 + j)) = some u:=hc0;obtain ⟨A0,c0,A3,c3,rfl,l0,g0,l3,g3⟩:=k45_open hK;exact ⟨ad,A0,c0,A3,c3,e,hc 0 _ rfl,by rw [← add_field _ _ 1 (by omega)];exact hc 1 _ rfl,by rw [← add_field _ _ 2 (by omega)];exact hc 2 _ rfl,by rw [← add_field _ _ 3 (by omega)];exact hc 3 _ rfl,l0,g0,l3,g3⟩
structure S24 where
 f0 : ByteArray
 f1 : Int
 f2 : Int
 f3 : Int
 f4 : (List S45)
def z24 : S24:=⟨(⟨#[]⟩ : ByteArray),(0 : Int),(0 : Int),(0 : Int),([] : List S45)⟩
def k24 : Kd S24:=Kd.iso (Kd.pair Kd.string (Kd.pair (Kd.int .i64) (Kd.pair (Kd.int .i64) (Kd.pair (Kd.int .i64) (Kd.slice 45 k45))))) (fun x : S24 => (x.f0,x.f1,x.f2,x.f3,x.f4))
theorem k24_open {w : World} {x : S24} {cs : List Value} (h : k24.K w x cs) : ∃ A4 c4,cs = [.string x.f0,.int .i64 x.f1,.int .i64 x.f2,.int .i64 x.f3,.slice A4 x.f4.length c4] ∧ x.f4.length ≤ c4 ∧ k45.C w A4 x.f4.length x.f4:=by
 obtain ⟨_,_,rfl,rfl,⟨_,_,rfl,rfl,⟨_,_,rfl,rfl,⟨_,_,rfl,rfl,⟨A4,c4,rfl,l4,g4⟩⟩⟩⟩⟩:=h;exact ⟨A4,c4,rfl,l4,g4⟩
theorem k24_mk (w : World) (x : S24) {A4 : Option Addr} {c4 : Nat} (l4 : x.f4.length ≤ c4) (g4 : k45.C w A4 x.f4.length x.f4) : k24.K w x [.string x.f0,.int .i64 x.f1,.int .i64 x.f2,.int .i64 x.f3,.slice A4 x.f4.length c4]:=⟨[.string x.f0],[.int .i64 x.f1,.int .i64 x.f2,.int .i64 x.f3,.slice A4 x.f4.length c4],rfl,rfl,⟨[.int .i64 x.f1],[.int .i64 x.f2,.int .i64 x.f3,.slice A4 x.f4.length c4],rfl,rfl,⟨[.int .i64 x.f2],[.int .i64 x.f3,.slice A4 x.f4.length c4],rfl,rfl,⟨[.int .i64 x.f3],[.slice A4 x.f4.length c4],rfl,rfl,⟨A4,c4,rfl,l4,g4⟩⟩⟩⟩⟩
theorem k24_mkM (w : World) (base : Nat) (ok : Nat → Prop) (x : S24) {v4 : Value} (g4 : k45.R 45 w base ok v4 x.f4) : k24.M w base ok x [.string x.f0,.int .i64 x.f1,.int .i64 x.f2,.int .i64 x.f3,v4]:=⟨[.string x.f0],[.int .i64 x.f1,.int .i64 x.f2,.int .i64 x.f3,v4],rfl,rfl,⟨[.int .i64 x.f1],[.int .i64 x.f2,.int .i64 x.f3,v4],rfl,rfl,⟨[.int .i64 x.f2],[.int .i64 x.f3,v4],rfl,rfl,⟨[.int .i64 x.f3],[v4],rfl,rfl,⟨v4,rfl,g4⟩⟩⟩⟩⟩
structure S85 where
 f0 : Int
 f1 : ByteArray
def k85 : Kd S85:=Kd.iso (Kd.pair (Kd.int .i64) Kd.string) (fun x : S85 => (x.f0,x.f1))
def rd_L11 (xs : List (List Bool)) (i : Int) : (List Bool):=xs.getD i.toNat ([] : List Bool)
theorem at_L11 {w : World} {A : Option Addr} {n : Nat} {xs : List (List Bool)} (h : Kd.C (Kd.slice 4 Kd.bool) w A n xs) (i : Int) (h0 : 0 ≤ i) (h1 : i < n) : ∃ ad A0 c0,A = some ad ∧ w.cell? (ad.add i.toNat) = some (.slice A0 (rd_L11 xs i).length c0) ∧ (rd_L11 xs i).length ≤ c0 ∧ Kd.bool.C w A0 (rd_L11 xs i).length (rd_L11 xs i):=by
 obtain ⟨ad,c,e,_,hK,hc0⟩:=Kd.C_get h ([] : List Bool) i h0 h1;have hc : ∀ j u,c[j]? = some u → w.cell? (ad.add (i.toNat * 1 + j)) = some u:=hc0;obtain ⟨A0,c0,rfl,l0,g0⟩:=hK;exact ⟨ad,A0,c0,e,by have hq:=hc 0 _ rfl;rwa [Nat.mul_one,Nat.add_zero] at hq,l0,g0⟩
end Go.Proofs.Ytbklmnieakefnaa.Q
namespace Go.Proofs.Ytbklmnieakefnaa.Q
open Go.Deep Go.RowKit Go.Proofs.YtbklmnieakefnaaW.PrintWords Go.Proofs.YtbklmnieakefnaaW.PrintLast Go.Proofs.YtbklmnieakefnaaW.PrintMore
set_option linter.unusedVariables false
section
variable {H : Type} {enc : TypeId × Value → H} {w : World}
def Rd {α : Type} (enc : TypeId × Value → H) (w : World) (d : Kd α) (t : TypeId) (good : α → Nat → Prop) : Prop :=
 ∀ n cs x,DataW.trod enc Try.prog w 0 (fun _ => true) true n t cs = some x → ∃ a : α,d.K w a cs ∧ good a (Rows.uptoBulk x.1)
theorem rd_int {k : IntKind} {t : TypeId} (ht : Try.prog.underlying t = some (.int k)) : Rd enc w (Kd.int k) t (fun _ _ => True):=by
 intro n cs x h;obtain ⟨z,rfl,rfl,_⟩:=DataW.trod_int ht h;exact ⟨z,rfl,trivial⟩
theorem rd_string {t : TypeId} (ht : Try.prog.underlying t = some .string) : Rd enc w Kd.string t (fun _ _ => True):=by
 intro n cs x h;obtain ⟨z,rfl,rfl,_⟩:=DataW.trod_string ht h;exact ⟨z,rfl,trivial⟩
theorem bulk_pos (d : DataW H) : 1 ≤ Rows.uptoBulk d:=by
 cases d with
 | lit l => cases l <;> simp [Rows.uptoBulk]
 | _ => simp [Rows.uptoBulk]
theorem bulkAll_mem {d : DataW H} : ∀ {ds : List (DataW H)},d ∈ ds → Rows.uptoBulk d ≤ Rows.uptoBulkAll ds
 | a :: ds,h => by
  rcases List.mem_cons.1 h with rfl|h
  · simp [Rows.uptoBulkAll]
  · have:=bulkAll_mem h;simp only [Rows.uptoBulkAll];omega
theorem bulkAll_length : ∀ (ds : List (DataW H)),ds.length ≤ Rows.uptoBulkAll ds
 | [] => by simp
 | a :: ds => by
  have:=bulkAll_length ds;have:=bulk_pos a;simp only [Rows.uptoBulkAll,List.length_cons];omega
theorem add_add_ (a : Addr) (x y : Nat) : a.add (x + y) = (a.add x).add y:=by
 unfold Addr.add;by_cases h1 : x = 0 <;> by_cases h2 : y = 0 <;> simp [h1,h2,Nat.add_assoc]
theorem rd_slice {α : Type} {d : Kd α} {t e e' : TypeId} {good : α → Nat → Prop} (ht : Try.prog.underlying t = some (.slice e)) (hc : Try.prog.cellsOf e = d.sz) (hd : Rd enc w d e good) :
 Rd enc w (Kd.slice e' d) t (fun xs b => xs.length ≤ b ∧ ∀ x ∈ xs,∃ b',b' ≤ b ∧ good x b'):=by
 intro n cs x h;rcases open_slice ht h with ⟨rfl,rfl⟩ | ⟨a,len,cap,m,n',D,Pl,rfl,_,hlc,hcm,hm,rfl,hel⟩
 · exact ⟨[],⟨none,0,rfl,Nat.le_refl _,rfl,by simp,fun h0 => by simp at h0⟩,by simp,fun x hx => by cases hx⟩
 · have hm' : m = cap:=by simpa using hm
   have h1 : ∀ i : Fin len,∃ z : α,∃ cs',w.cells? 0 (a.add (i.1 * d.sz)) d.sz = some cs' ∧ d.K w z cs' ∧ good z (Rows.uptoBulk (D i.1)):=by
    intro i;obtain ⟨cs',hcs,htr⟩:=hel i.1 (by have:=i.2;omega);rw [hc] at hcs;obtain ⟨z,hK,hg⟩:=hd _ _ _ htr;exact ⟨z,cs',hcs,hK,hg⟩
   obtain ⟨f,hf⟩:=Classical.axiomOfChoice h1;have hlen : (List.ofFn f).length = len:=List.length_ofFn;refine ⟨List.ofFn f,⟨some a,cap,by rw [hlen],by rw [hlen];exact hlc,rfl,?_,fun h0 => ⟨a,rfl,fun j p hp => ?_⟩⟩,?_,?_⟩
   · rw [hlen];have:=hcm;unfold maxLen at this;omega
   · have hj : j < len:=by
      have:=(List.getElem?_eq_some_iff.1 hp).1
      rwa [hlen] at this
     have hpj : p = f ⟨j,hj⟩:=by
      have:=(List.getElem?_eq_some_iff.1 hp).2
      simpa using this.symm
     subst hpj;obtain ⟨cs',hcs,hK,_⟩:=hf ⟨j,hj⟩;obtain ⟨_,hl,hcell⟩:=World.cells?_some hcs;refine ⟨cs',hl,hK,fun i u hu => ?_⟩;have hi : i < d.sz:=by
      have:=(List.getElem?_eq_some_iff.1 hu).1;omega
     have hq:=(hcell i hi).trans hu;rw [← hq];congr 1;exact add_add_ a _ _
   · simp only [Rows.uptoBulk,hlen];have:=bulkAll_length ((List.range len).map D);simp at this;omega
   · intro x hx;obtain ⟨i,rfl⟩:=List.mem_ofFn.1 hx;refine ⟨Rows.uptoBulk (D i.1),?_,(hf i).choose_spec.2.2⟩;have:=bulkAll_mem (d:=D i.1) (ds:=(List.range len).map D) (List.mem_map_of_mem (by simp));simp only [Rows.uptoBulk];omega
theorem fields_get {fs : Array Field} {xs : List (DataW H × List MemPlace)} {G : Field → Option (DataW H × List MemPlace)} (hxl : xs.length = fs.size) (hf : ∀ (i : Nat) (f : Field),fs[i]? = some f → G f = xs[i]?) : ∀ (i : Nat) (f : Field),fs[i]? = some f → ∃ y,G f = some y ∧ y ∈ xs:=by
 intro i f hi;have h2 : i < xs.length:=by
  have:=(Array.getElem?_eq_some_iff.1 hi).1;rw [hxl];exact this
 exact ⟨xs[i],(hf i f hi).trans (List.getElem?_eq_getElem h2),List.getElem_mem h2⟩
theorem field_one {cs : List Value} {m : Nat} {t : TypeId} {o : Nat} {c : Value} {y : DataW H × List MemPlace} (h1 : Try.prog.cellsOf t = 1) (h2 : cs[o]? = some c) (h3 : DataW.trod enc Try.prog w 0 (fun _ => true) true m t ((cs.drop o).take (Try.prog.cellsOf t)) = some y) : DataW.trod enc Try.prog w 0 (fun _ => true) true m t [c] = some y:=by
 rw [h1] at h3;obtain ⟨h4,h5⟩:=List.getElem?_eq_some_iff.1 h2;rw [List.drop_eq_getElem_cons h4,h5] at h3
 simpa using h3
theorem bulk_agg {xs : List (DataW H × List MemPlace)} {y : DataW H × List MemPlace} (h : y ∈ xs) : Rows.uptoBulk y.1 ≤ Rows.uptoBulk (DataW.agg (xs.map (·.1))):=by
 have:=bulkAll_mem (List.mem_map_of_mem (f:=fun z : DataW H × List MemPlace => z.1) h);simp only [Rows.uptoBulk];omega
theorem rd_59 : Rd enc w k59 59 (fun _ _ => True):=by
 intro n cs x h;obtain ⟨xs,m,rfl,rfl,hl,hxl,hf⟩:=DataW.trod_struct Try.underlying59 h;have hl' : cs.length = 7:=hl.trans (by kernel_rfl);obtain ⟨c0,c1,c2,c3,c4,c5,c6,rfl⟩ : ∃ c0 c1 c2 c3 c4 c5 c6,cs = [c0,c1,c2,c3,c4,c5,c6]:=by
  match cs,hl' with
  | [c0,c1,c2,c3,c4,c5,c6],_ => exact ⟨c0,c1,c2,c3,c4,c5,c6,rfl⟩
 have k3 : Try.prog.cellsOf 3 = 1:=by kernel_rfl
 have k21 : Try.prog.cellsOf 21 = 1:=by kernel_rfl
 have k26 : Try.prog.cellsOf 26 = 1:=by kernel_rfl
 have g:=fields_get hxl hf;clear hf;obtain ⟨y0,h0,m0⟩:=g 0 _ rfl;obtain ⟨y1,h1,m1⟩:=g 1 _ rfl;obtain ⟨y2,h2,m2⟩:=g 2 _ rfl;obtain ⟨y3,h3,m3⟩:=g 3 _ rfl;obtain ⟨y4,h4,m4⟩:=g 4 _ rfl;obtain ⟨y5,h5,m5⟩:=g 5 _ rfl;obtain ⟨y6,h6,m6⟩:=g 6 _ rfl;clear g;replace h0:=field_one k3 (o:=0) rfl h0;replace h1:=field_one k3 (o:=1) rfl h1;replace h2:=field_one k26 (o:=2) rfl h2;replace h3:=field_one k21 (o:=3) rfl h3;replace h4:=field_one k3 (o:=4) rfl h4;replace h5:=field_one k3 (o:=5) rfl h5;replace h6:=field_one k26 (o:=6) rfl h6;obtain ⟨z0,e0,_⟩:=rd_int Try.underlying3 _ _ _ h0;obtain ⟨z1,e1,_⟩:=rd_int Try.underlying3 _ _ _ h1;obtain ⟨z2,⟨A2,d2,e2,l2,g2⟩,b2⟩:=rd_slice (e' := 3) Try.underlying26 (by kernel_rfl) (rd_int Try.underlying3) _ _ _ h2;obtain ⟨z3,e3,_⟩:=rd_int Try.underlying21 _ _ _ h3;obtain ⟨z4,e4,_⟩:=rd_int Try.underlying3 _ _ _ h4;obtain ⟨z5,e5,_⟩:=rd_int Try.underlying3 _ _ _ h5;obtain ⟨z6,⟨A6,d6,e6,l6,g6⟩,b6⟩:=rd_slice (e' := 3) Try.underlying26 (by kernel_rfl) (rd_int Try.underlying3) _ _ _ h6;obtain rfl:=(List.cons.inj e0).1;obtain rfl:=(List.cons.inj e1).1;obtain rfl:=(List.cons.inj e2).1;obtain rfl:=(List.cons.inj e3).1;obtain rfl:=(List.cons.inj e4).1;obtain rfl:=(List.cons.inj e5).1;obtain rfl:=(List.cons.inj e6).1;exact ⟨⟨z0,z1,z2,z3,z4,z5,z6⟩,k59_mk w ⟨z0,z1,z2,z3,z4,z5,z6⟩ l2 g2 l6 g6,trivial⟩
theorem rd_45 : Rd enc w k45 45 (fun a b => a.f3.length ≤ b):=by
 intro n cs x h;obtain ⟨xs,m,rfl,rfl,hl,hxl,hf⟩:=DataW.trod_struct Try.underlying45 h;have hl' : cs.length = 4:=hl.trans (by kernel_rfl);obtain ⟨c0,c1,c2,c3,rfl⟩ : ∃ c0 c1 c2 c3,cs = [c0,c1,c2,c3]:=by
  match cs,hl' with
  | [c0,c1,c2,c3],_ => exact ⟨c0,c1,c2,c3,rfl⟩
 have k3 : Try.prog.cellsOf 3 = 1:=by kernel_rfl
 have k26 : Try.prog.cellsOf 26 = 1:=by kernel_rfl
 have k43 : Try.prog.cellsOf 43 = 1:=by kernel_rfl
 have g:=fields_get hxl hf;clear hf;obtain ⟨y0,h0,m0⟩:=g 0 _ rfl;obtain ⟨y1,h1,m1⟩:=g 1 _ rfl;obtain ⟨y2,h2,m2⟩:=g 2 _ rfl;obtain ⟨y3,h3,m3⟩:=g 3 _ rfl;clear g;replace h0:=field_one k43 (o:=0) rfl h0;replace h1:=field_one k3 (o:=1) rfl h1;replace h2:=field_one k3 (o:=2) rfl h2;replace h3:=field_one k26 (o:=3) rfl h3;obtain ⟨z0,⟨A0,d0,e0,l0,g0⟩,b0⟩:=rd_slice (e' := 59) Try.underlying43 (by kernel_rfl) rd_59 _ _ _ h0;obtain ⟨z1,e1,_⟩:=rd_int Try.underlying3 _ _ _ h1;obtain ⟨z2,e2,_⟩:=rd_int Try.underlying3 _ _ _ h2;obtain ⟨z3,⟨A3,d3,e3,l3,g3⟩,b3⟩:=rd_slice (e' := 3) Try.underlying26 (by kernel_rfl) (rd_int Try.underlying3) _ _ _ h3;obtain rfl:=(List.cons.inj e0).1;obtain rfl:=(List.cons.inj e1).1;obtain rfl:=(List.cons.inj e2).1;obtain rfl:=(List.cons.inj e3).1;exact ⟨⟨z0,z1,z2,z3⟩,k45_mk w ⟨z0,z1,z2,z3⟩ l0 g0 l3 g3,Nat.le_trans b3.1 (bulk_agg m3)⟩
theorem rd_24 : Rd enc w k24 24 (fun a b => a.f4.length ≤ b ∧ ∀ x ∈ a.f4,x.f3.length ≤ b):=by
 intro n cs x h;obtain ⟨xs,m,rfl,rfl,hl,hxl,hf⟩:=DataW.trod_struct Try.underlying24 h;have hl' : cs.length = 5:=hl.trans (by kernel_rfl);obtain ⟨c0,c1,c2,c3,c4,rfl⟩ : ∃ c0 c1 c2 c3 c4,cs = [c0,c1,c2,c3,c4]:=by
  match cs,hl' with
  | [c0,c1,c2,c3,c4],_ => exact ⟨c0,c1,c2,c3,c4,rfl⟩
 have k3 : Try.prog.cellsOf 3 = 1:=by kernel_rfl
 have k9 : Try.prog.cellsOf 9 = 1:=by kernel_rfl
 have k22 : Try.prog.cellsOf 22 = 1:=by kernel_rfl
 have g:=fields_get hxl hf;clear hf;obtain ⟨y0,h0,m0⟩:=g 0 _ rfl;obtain ⟨y1,h1,m1⟩:=g 1 _ rfl;obtain ⟨y2,h2,m2⟩:=g 2 _ rfl;obtain ⟨y3,h3,m3⟩:=g 3 _ rfl;obtain ⟨y4,h4,m4⟩:=g 4 _ rfl;clear g;replace h0:=field_one k9 (o:=0) rfl h0;replace h1:=field_one k3 (o:=1) rfl h1;replace h2:=field_one k3 (o:=2) rfl h2;replace h3:=field_one k3 (o:=3) rfl h3;replace h4:=field_one k22 (o:=4) rfl h4;obtain ⟨z0,e0,_⟩:=rd_string Try.underlying9 _ _ _ h0;obtain ⟨z1,e1,_⟩:=rd_int Try.underlying3 _ _ _ h1;obtain ⟨z2,e2,_⟩:=rd_int Try.underlying3 _ _ _ h2;obtain ⟨z3,e3,_⟩:=rd_int Try.underlying3 _ _ _ h3;obtain ⟨z4,⟨A4,d4,e4,l4,g4⟩,b4⟩:=rd_slice (e' := 45) Try.underlying22 (by kernel_rfl) rd_45 _ _ _ h4;obtain rfl:=(List.cons.inj e0).1;obtain rfl:=(List.cons.inj e1).1;obtain rfl:=(List.cons.inj e2).1;obtain rfl:=(List.cons.inj e3).1;obtain rfl:=(List.cons.inj e4).1;exact ⟨⟨z0,z1,z2,z3,z4⟩,k24_mk w ⟨z0,z1,z2,z3,z4⟩ l4 g4,⟨Nat.le_trans b4.1 (bulk_agg m4),fun x hx => by obtain ⟨b5,h5,h6⟩:=b4.2 x hx;exact Nat.le_trans h6 (Nat.le_trans h5 (bulk_agg m4))⟩⟩
end
end Go.Proofs.Ytbklmnieakefnaa.Q
