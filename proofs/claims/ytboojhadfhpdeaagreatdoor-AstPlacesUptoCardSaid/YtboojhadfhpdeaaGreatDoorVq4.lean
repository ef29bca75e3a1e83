/- A part of the proof, made small by a program: Qx0, E1, E2. -/
import Derived.ArgAppend
import Derived.Below
import Derived.BigQuiet
import Derived.ChangeArms
import Derived.DataReads
import Derived.Deep.AppendLies
import Derived.Deep.CutBlock
import Derived.Deep.DeepCutAuto
import Derived.Deep.Draws
import Derived.Deep.LoopGhost
import Derived.Deep.OwnRows
import Derived.Deep.QuietTactic
import Derived.Deep.RegionHeld3
import Derived.Deep.Slices
import Derived.KernelRfl
import Derived.Laws.BitsLemmas
import Derived.Laws.BytesArg
import Derived.Laws.IdiomCopy
import Derived.Laws.MakeOwn
import Derived.Laws.OwnMore
import Derived.Laws.Rows
import Derived.Laws.Slices
import Derived.Laws.StructEq
import Derived.Lib.AppendStr
import Derived.Lib.ConvBytes
import Derived.Maps.AppendAt
import Derived.OrdersHeld
import Derived.OwnWalk
import Derived.RowKit
import Derived.RowKit3
import Derived.Tactics
import Derived.Test.YtboojhadfhpdeaaGreatDoorProg
import Derived.Test.YtboojhadfhpdeaaGreatDoorRows
import Derived.WalkKit
import Derived.WideLaws
import Derived.Test.YtboojhadfhpdeaaGreatDoorVq1
import Derived.Test.YtboojhadfhpdeaaGreatDoorVq3
set_option linter.unusedVariables false
set_option linter.unusedSimpArgs false
set_option maxHeartbeats 8000000
set_option maxRecDepth 100000
namespace Go.Proofs.YtboojhadfhpdeaaGreatDoor.Q
open Go.RowKit Go.Proofs.YtboojhadfhpdeaaGreatDoorW.PrintWords Go.Proofs.YtboojhadfhpdeaaGreatDoorW.PrintLast Go.Proofs.YtboojhadfhpdeaaGreatDoorW.PrintMore
attribute [local go_sem] fM fO gI gJ fD fE fP fQ
def errW : Option Int → Value
 | none => .nilIface
 | some c => .iface 0 (.int .i64 c)
theorem aT : errW none = .nilIface:=rfl
theorem aU (c : Int) : errW (some c) = .iface 0 (.int .i64 c):=rfl
theorem info25 : (Tryz.prog.info? 25).map (fun i => (i.zero,i.size,i.bytes)) = some (some (.agg #[(.int .i64 0),(.string ⟨#[]⟩),(.int .u32 0),(.bool false),(.slice none 0 0),(.int .i64 0)]),6,64):=by kernel_rfl
structure bn where
 f0 : Int
 f1 : ByteArray
 f2 : Int
 f3 : Bool
 f4 : (List bn)
 f5 : Int
def z25 : bn:=⟨(0 : Int),(⟨#[]⟩ : ByteArray),(0 : Int),false,([] : List bn),(0 : Int)⟩
def F25 (d : Kd bn) : Kd bn:=Kd.iso (Kd.pair (Kd.int .i64) (Kd.pair Kd.string (Kd.pair (Kd.int .u32) (Kd.pair Kd.bool (Kd.pair (Kd.slice 25 d) (Kd.int .i64)))))) (fun x : bn => (x.f0,x.f1,x.f2,x.f3,x.f4,x.f5))
theorem Gx : Kd.vY F25:=Kd.mono_iso _ (Kd.uN (Kd.sH _) (Kd.uN (Kd.sH _) (Kd.uN (Kd.sH _) (Kd.uN (Kd.sH _) (Kd.uN (Kd.LV 25 Kd.mono_id) (Kd.sH _))))))
theorem sub25 : Kd.Sub F25 [25]:=Kd.sub_iso _ (Kd.wH (Kd.sub_const _ (by decide)) (Kd.wH (Kd.sub_const _ (by decide)) (Kd.wH (Kd.sub_const _ (by decide)) (Kd.wH (Kd.sub_const _ (by decide)) (Kd.wH (Kd.QL 25 (by decide) Kd.sub_id) (Kd.sub_const _ (by decide)))))))
theorem sz25 : ∀ n,(Kd.upto F25 6 [25] n).sz = 6:=Kd.upto_sz (fun _ => rfl)
def k25 : Kd bn:=Kd.fix F25 6 [25] sz25 (Kd.upto_E sub25)
theorem yH {w : World} {x : bn} {cs : List Value} (h : k25.K w x cs) : ∃ A4 c4,cs = [.int .i64 x.f0,.string x.f1,.int .u32 x.f2,.bool x.f3,.slice A4 x.f4.length c4,.int .i64 x.f5] ∧ x.f4.length ≤ c4 ∧ k25.C w A4 x.f4.length x.f4:=by
 obtain ⟨n,h⟩:=h;cases n with
 | zero => exact h.elim
 | succ n =>
  obtain ⟨_,_,rfl,rfl,⟨_,_,rfl,rfl,⟨_,_,rfl,rfl,⟨_,_,rfl,rfl,⟨_,_,rfl,⟨A4,c4,rfl,l4,g4⟩,rfl⟩⟩⟩⟩⟩:=h;exact ⟨A4,c4,rfl,l4,Kd.fix_C g4⟩
theorem Gy (w : World) (x : bn) {A4 : Option Addr} {c4 : Nat} (l4 : x.f4.length ≤ c4) (g4 : k25.C w A4 x.f4.length x.f4) : k25.K w x [.int .i64 x.f0,.string x.f1,.int .u32 x.f2,.bool x.f3,.slice A4 x.f4.length c4,.int .i64 x.f5]:=by
 obtain ⟨n4,q4⟩:=Kd.LX Gx g4;have r4:=Kd.QN Gx sz25 (show n4 ≤ n4 by omega) q4;exact ⟨n4 + 1,⟨[.int .i64 x.f0],[.string x.f1,.int .u32 x.f2,.bool x.f3,.slice A4 x.f4.length c4,.int .i64 x.f5],rfl,rfl,⟨[.string x.f1],[.int .u32 x.f2,.bool x.f3,.slice A4 x.f4.length c4,.int .i64 x.f5],rfl,rfl,⟨[.int .u32 x.f2],[.bool x.f3,.slice A4 x.f4.length c4,.int .i64 x.f5],rfl,rfl,⟨[.bool x.f3],[.slice A4 x.f4.length c4,.int .i64 x.f5],rfl,rfl,⟨[.slice A4 x.f4.length c4],[.int .i64 x.f5],rfl,⟨A4,c4,rfl,l4,r4⟩,rfl⟩⟩⟩⟩⟩⟩
theorem k25_mkM (w : World) (base : Nat) (ok : Nat → Prop) (x : bn) {v4 : Value} (g4 : k25.R 25 w base ok v4 x.f4) : k25.M w base ok x [.int .i64 x.f0,.string x.f1,.int .u32 x.f2,.bool x.f3,v4,.int .i64 x.f5]:=by
 obtain ⟨n4,q4⟩:=Kd.LW Gx g4;have r4:=Kd.QM Gx sz25 (show n4 ≤ n4 by omega) q4;exact ⟨n4 + 1,⟨[.int .i64 x.f0],[.string x.f1,.int .u32 x.f2,.bool x.f3,v4,.int .i64 x.f5],rfl,rfl,⟨[.string x.f1],[.int .u32 x.f2,.bool x.f3,v4,.int .i64 x.f5],rfl,rfl,⟨[.int .u32 x.f2],[.bool x.f3,v4,.int .i64 x.f5],rfl,rfl,⟨[.bool x.f3],[v4,.int .i64 x.f5],rfl,rfl,⟨[v4],[.int .i64 x.f5],rfl,⟨v4,rfl,r4⟩,rfl⟩⟩⟩⟩⟩⟩
def aG (xs : List bn) (i : Int) : bn:=xs.getD i.toNat z25
theorem kX {w : World} {A : Option Addr} {n : Nat} {xs : List bn} (h : Kd.C k25 w A n xs) (i : Int) (h0 : 0 ≤ i) (h1 : i < n) : ∃ ad A4 c4,A = some ad ∧ w.cell? (ad.add (i.toNat * 6)) = some (.int .i64 (aG xs i).f0) ∧ w.cell? ⟨(ad.add (i.toNat * 6)).block,(ad.add (i.toNat * 6)).off + 1,none⟩ = some (.string (aG xs i).f1) ∧ w.cell? ⟨(ad.add (i.toNat * 6)).block,(ad.add (i.toNat * 6)).off + 2,none⟩ = some (.int .u32 (aG xs i).f2) ∧ w.cell? ⟨(ad.add (i.toNat * 6)).block,(ad.add (i.toNat * 6)).off + 3,none⟩ = some (.bool (aG xs i).f3) ∧ w.cell? ⟨(ad.add (i.toNat * 6)).block,(ad.add (i.toNat * 6)).off + 4,none⟩ = some (.slice A4 (aG xs i).f4.length c4) ∧ w.cell? ⟨(ad.add (i.toNat * 6)).block,(ad.add (i.toNat * 6)).off + 5,none⟩ = some (.int .i64 (aG xs i).f5) ∧ (aG xs i).f4.length ≤ c4 ∧ k25.C w A4 (aG xs i).f4.length (aG xs i).f4:=by
 obtain ⟨ad,c,e,_,hK,hc0⟩:=Kd.C_get h z25 i h0 h1;have hc : ∀ j u,c[j]? = some u → w.cell? (ad.add (i.toNat * 6 + j)) = some u:=hc0;obtain ⟨A4,c4,rfl,l4,g4⟩:=yH hK;exact ⟨ad,A4,c4,e,hc 0 _ rfl,by rw [← nI _ _ 1 (by omega)];exact hc 1 _ rfl,by rw [← nI _ _ 2 (by omega)];exact hc 2 _ rfl,by rw [← nI _ _ 3 (by omega)];exact hc 3 _ rfl,by rw [← nI _ _ 4 (by omega)];exact hc 4 _ rfl,by rw [← nI _ _ 5 (by omega)];exact hc 5 _ rfl,l4,g4⟩
open Go.Deep
set_option maxRecDepth 100000
section
variable {H : Type} {enc : TypeId × Value → H} {w : World}
theorem add_add_ (a : Addr) (x y : Nat) : a.add (x + y) = (a.add x).add y:=by
 unfold Addr.add;by_cases h1 : x = 0 <;> by_cases h2 : y = 0 <;> simp [h1,h2,Nat.add_assoc]
theorem rX {cs : List Value} {m : Nat} {t : TypeId} {o : Nat} {c : Value} {y : DataW H × List MemPlace} (h1 : Tryz.prog.cellsOf t = 1) (h2 : cs[o]? = some c) (h3 : DataW.trod enc Tryz.prog w 0 (fun _ => true) true m t ((cs.drop o).take (Tryz.prog.cellsOf t)) = some y) : DataW.trod enc Tryz.prog w 0 (fun _ => true) true m t [c] = some y:=by
 rw [h1] at h3;obtain ⟨h4,h5⟩:=List.getElem?_eq_some_iff.1 h2;rw [List.drop_eq_getElem_cons h4,h5] at h3
 simpa using h3
end
set_option maxRecDepth 100000
inductive WT : bn → Nat → Prop
 | mk (x : bn) (ws : List Nat) (hl : ws.length = x.f4.length) (hk : ∀ (i : Nat) (y : bn) (n : Nat),x.f4[i]? = some y → ws[i]? = some n → WT y n) (hr : 0 ≤ x.f2 ∧ x.f2 < 4294967296) : WT x (x.f1.size + 1 + ws.sum)
section
variable {H : Type} {enc : TypeId × Value → H} {w : World}
theorem Bj {d : DataW H} : ∀ {ds : List (DataW H)},d ∈ ds → Rows.uptoBulk d ≤ Rows.uptoBulkAll ds
 | a :: ds,h => by
  rcases List.mem_cons.1 h with rfl|h
  · simp [Rows.uptoBulkAll]
  · have:=Bj h;simp only [Rows.uptoBulkAll];omega
theorem JG : ∀ (l : List (DataW H × List MemPlace)) (g : Fin l.length → Nat),(∀ i : Fin l.length,g i ≤ Rows.uptoBulk (l[i]).1) → (List.ofFn g).sum ≤ Rows.uptoBulkAll (l.map (·.1))
 | [],g,_ => by simp
 | a :: l,g,h => by
  have h1:=JG l (fun i => g i.succ) (fun i => h i.succ);have h0:=h ⟨0,by simp⟩;rw [List.ofFn_succ];simp only [List.map_cons,Rows.uptoBulkAll,List.sum_cons];have e0 : g 0 ≤ Rows.uptoBulk a.1:=h0;omega
theorem QW {α : Type} {d : Kd α} {t e : TypeId} {n : Nat} {cs : List Value} {x : DataW H × List MemPlace} {good : α → Nat → Prop} (ht : Tryz.prog.underlying t = some (.slice e)) (hc : Tryz.prog.cellsOf e = d.sz)
 (hd : ∀ n' < n,∀ cs x,DataW.trod enc Tryz.prog w 0 (fun _ => true) true n' e cs = some x → ∃ (a : α) (b : Nat),d.K w a cs ∧ good a b ∧ b ≤ Rows.uptoBulk x.1) (h : DataW.trod enc Tryz.prog w 0 (fun _ => true) true n t cs = some x) :
 ∃ (A : Option Addr) (c : Nat) (xs : List α) (ws : List Nat),cs = [.slice A xs.length c] ∧ xs.length ≤ c ∧ d.C w A xs.length xs ∧ ws.length = xs.length ∧ (∀ (i : Nat) (y : α) (b : Nat),xs[i]? = some y → ws[i]? = some b → good y b) ∧ ws.sum ≤ Rows.uptoBulk x.1:=by
 rcases DataW.trod_slice ht h with ⟨rfl,rfl⟩ | ⟨a,len,cap,elems,rest,m,rfl,rfl,rfl,_,hlc,hcm,hlen,hel,_⟩
 · exact ⟨none,0,[],[],rfl,Nat.le_refl _,⟨rfl,by simp,fun h0 => by simp at h0⟩,rfl,fun i y b h => by simp at h,by simp⟩
 · have h1 : ∀ i : Fin elems.length,∃ z : α × Nat,∃ cs',w.cells? 0 (a.add (i.1 * d.sz)) d.sz = some cs' ∧ d.K w z.1 cs' ∧ good z.1 z.2 ∧ z.2 ≤ Rows.uptoBulk (elems[i]).1:=by
    intro i;have h2:=hel i.1 (by have:=i.2;omega);rw [List.getElem?_eq_getElem i.2] at h2;obtain ⟨cs',hcs,htr⟩:=Option.bind_eq_some_iff.1 h2;rw [hc] at hcs;obtain ⟨z,b,hK,hg,hb⟩:=hd m (Nat.lt_succ_self m) _ _ htr;exact ⟨(z,b),cs',hcs,hK,hg,hb⟩
   obtain ⟨f,hf⟩:=Classical.axiomOfChoice h1;have hl : (List.ofFn fun i => (f i).1).length = elems.length:=List.length_ofFn;have hl2 : (List.ofFn fun i => (f i).2).length = elems.length:=List.length_ofFn;refine ⟨some a,cap,List.ofFn (fun i => (f i).1),List.ofFn (fun i => (f i).2),by rw [hl,hlen],by rw [hl,hlen];exact hlc,⟨rfl,?_,fun h0 => ⟨a,rfl,fun j p hp => ?_⟩⟩,by rw [hl,hl2],fun i y b hy hb => ?_,?_⟩
   · rw [hl,hlen];have:=hcm;unfold maxLen at this;omega
   · have hj : j < elems.length:=by
      have:=(List.getElem?_eq_some_iff.1 hp).1
      rwa [hl] at this
     have hpj : p = (f ⟨j,hj⟩).1:=by
      have:=(List.getElem?_eq_some_iff.1 hp).2
      simpa using this.symm
     subst hpj;obtain ⟨cs',hcs,hK,_⟩:=hf ⟨j,hj⟩;obtain ⟨_,hl',hcell⟩:=World.cells?_some hcs;refine ⟨cs',hl',hK,fun i u hu => ?_⟩;have hi : i < d.sz:=by
      have:=(List.getElem?_eq_some_iff.1 hu).1;omega
     have hq:=(hcell i hi).trans hu;rw [← hq];congr 1;exact add_add_ a _ _
   · have hi : i < elems.length:=by
      have:=(List.getElem?_eq_some_iff.1 hy).1
      rwa [hl] at this
     have e1 : y = (f ⟨i,hi⟩).1:=by
      have:=(List.getElem?_eq_some_iff.1 hy).2
      simpa using this.symm
     have e2 : b = (f ⟨i,hi⟩).2:=by
      have:=(List.getElem?_eq_some_iff.1 hb).2
      simpa using this.symm
     rw [e1,e2];exact (hf ⟨i,hi⟩).choose_spec.2.2.1
   · have h3:=JG elems (fun i => (f i).2) (fun i => (hf i).choose_spec.2.2.2);simp only [Rows.uptoBulk];omega
theorem JH {fs : Array Field} {xs : List (DataW H × List MemPlace)} {G : Field → Option (DataW H × List MemPlace)} (hxl : xs.length = fs.size) (hf : ∀ (i : Nat) (f : Field),fs[i]? = some f → G f = xs[i]?) : ∀ (i : Nat) (f : Field),fs[i]? = some f → ∃ y,G f = some y ∧ xs[i]? = some y:=by
 intro i f hi;have h2 : i < xs.length:=by
  have:=(Array.getElem?_eq_some_iff.1 hi).1;rw [hxl];exact this
 exact ⟨xs[i],(hf i f hi).trans (List.getElem?_eq_getElem h2),List.getElem?_eq_getElem h2⟩
theorem bulk_two {xs : List (DataW H × List MemPlace)} {y z : DataW H × List MemPlace} {i j : Nat} (hy : xs[i]? = some y) (hz : xs[j]? = some z) (hij : i < j) : Rows.uptoBulk y.1 + Rows.uptoBulk z.1 + 1 ≤ Rows.uptoBulk (DataW.agg (xs.map (·.1))):=by
 simp only [Rows.uptoBulk];have key : ∀ (xs : List (DataW H × List MemPlace)) (i j : Nat),xs[i]? = some y → xs[j]? = some z → i < j → Rows.uptoBulk y.1 + Rows.uptoBulk z.1 ≤ Rows.uptoBulkAll (xs.map (·.1)):=by
  intro xs;induction xs with
  | nil => intro i j h;simp at h
  | cons a l ih =>
   intro i j h1 h2 h3;simp only [List.map_cons,Rows.uptoBulkAll];cases j with
   | zero => omega
   | succ j =>
    rw [List.getElem?_cons_succ] at h2;cases i with
    | zero =>
     obtain rfl:=Option.some.inj (show some a = some y from h1);have:=Bj (List.mem_map_of_mem (f:=fun q : DataW H × List MemPlace => q.1) (List.mem_of_getElem? h2));omega
    | succ i =>
     rw [List.getElem?_cons_succ] at h1;have:=ih i j h1 h2 (by omega);omega
 have:=key xs i j hy hz hij;omega
theorem rd_25w : ∀ (n : Nat) (cs : List Value) (x : DataW H × List MemPlace),DataW.trod enc Tryz.prog w 0 (fun _ => true) true n 25 cs = some x → ∃ (a : bn) (b : Nat),k25.K w a cs ∧ WT a b ∧ b ≤ Rows.uptoBulk x.1:=by
 intro n;induction n using Nat.strongRecOn with
 | _ n ih =>
 intro cs x h;obtain ⟨xs,m,rfl,rfl,hl,hxl,hf⟩:=DataW.trod_struct Tryz.underlying25 h;have hl' : cs.length = 6:=hl.trans (by kernel_rfl);obtain ⟨c0,c1,c2,c3,c4,c5,rfl⟩ : ∃ c0 c1 c2 c3 c4 c5,cs = [c0,c1,c2,c3,c4,c5]:=by
  match cs,hl' with
  | [c0,c1,c2,c3,c4,c5],_ => exact ⟨c0,c1,c2,c3,c4,c5,rfl⟩
 have g:=JH hxl hf;clear hf;obtain ⟨y0,h0,_⟩:=g 0 _ rfl;obtain ⟨y1,h1,m1⟩:=g 1 _ rfl;obtain ⟨y2,h2,_⟩:=g 2 _ rfl;obtain ⟨y3,h3,_⟩:=g 3 _ rfl;obtain ⟨y4,h4,m4⟩:=g 4 _ rfl;obtain ⟨y5,h5,_⟩:=g 5 _ rfl;clear g;replace h0:=rX (by kernel_rfl) (o:=0) rfl h0;replace h1:=rX (by kernel_rfl) (o:=1) rfl h1;replace h2:=rX (by kernel_rfl) (o:=2) rfl h2;replace h3:=rX (by kernel_rfl) (o:=3) rfl h3;replace h4:=rX (by kernel_rfl) (o:=4) rfl h4;replace h5:=rX (by kernel_rfl) (o:=5) rfl h5;obtain ⟨z0,e0,_,_⟩:=DataW.trod_int (k:=.i64) (by kernel_rfl) h0;obtain ⟨z1,e1,q1,_⟩:=DataW.trod_string (by kernel_rfl) h1;obtain ⟨z2,e2,_,r2⟩:=DataW.trod_int (k:=.u32) (by kernel_rfl) h2;have r3 : 0 ≤ z2 ∧ z2 < 4294967296:=by
  have h6 : (decide (IntKind.u32.min ≤ z2) && decide (z2 ≤ IntKind.u32.max)) = true:=r2;rw [Bool.and_eq_true,decide_eq_true_eq,decide_eq_true_eq,show IntKind.u32.min = 0 from rfl,show IntKind.u32.max = 4294967295 from rfl] at h6;omega
 obtain ⟨z3,e3,_⟩:=DataW.trod_bool (by kernel_rfl) h3;obtain ⟨A4,d4,z4,ws,e4,l4,g4,lw,gw,sw⟩:=QW (d:=k25) (e:=25) (by kernel_rfl) (by kernel_rfl) (fun n' hn => ih n' (by omega)) h4;obtain ⟨z5,e5,_,_⟩:=DataW.trod_int (k:=.i64) (by kernel_rfl) h5;obtain rfl:=(List.cons.inj e0).1;obtain rfl:=(List.cons.inj e1).1;obtain rfl:=(List.cons.inj e2).1;obtain rfl:=(List.cons.inj e3).1;obtain rfl:=(List.cons.inj e4).1;obtain rfl:=(List.cons.inj e5).1;refine ⟨⟨z0,z1,z2,z3,z4,z5⟩,_,Gy w ⟨z0,z1,z2,z3,z4,z5⟩ l4 g4,WT.mk ⟨z0,z1,z2,z3,z4,z5⟩ ws lw gw r3,?_⟩;have h:=bulk_two m1 m4 (by decide);rw [q1] at h;simp only [Rows.uptoBulk] at h ⊢;have hz : z1.size = z1.data.toList.length:=by rw [Array.length_toList];rfl
 simp only at *;omega
end
end Go.Proofs.YtboojhadfhpdeaaGreatDoor.Q
