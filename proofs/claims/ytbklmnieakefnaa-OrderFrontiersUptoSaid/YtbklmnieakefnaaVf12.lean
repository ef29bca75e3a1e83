/- Proved: for every function whose reading is of bulk at most 1048576, OrderFrontiers returns true and the function reads as it did. Condition: that bound, as the given statement states it. -/
import Derived.Below
import Derived.ChangeOld
import Derived.JoinedCond
import Derived.OpenShut
import Derived.ProofKit
import Derived.ShutString
import Derived.Test.YtbklmnieakefnaaRows
import Derived.WalkKit
import Derived.Test.YtbklmnieakefnaaVf1
import Derived.Test.YtbklmnieakefnaaVf2
import Derived.Test.YtbklmnieakefnaaVf3
import Derived.Test.YtbklmnieakefnaaVf5
import Derived.Test.YtbklmnieakefnaaVf6
import Derived.Test.YtbklmnieakefnaaVf7
import Derived.Test.YtbklmnieakefnaaVf8
import Derived.Test.YtbklmnieakefnaaVf10
import Derived.Test.YtbklmnieakefnaaVf11
namespace Go.Proofs.Ytbklmnieakefnaa.Q
open Go.RowKit Go.Proofs.YtbklmnieakefnaaW.PrintWords
set_option linter.unusedVariables false
abbrev mt (M : List Bool) (t : Int) : Bool:=rdOf false M t
theorem mt_set {M : List Bool} {t x : Int} (ht : 0 ≤ t) (hx : 0 ≤ x) (hl : t.toNat < M.length) : mt (M.set t.toNat true) x = if x = t then true else mt M x:=by
 unfold mt rdOf;rw [List.getD_eq_getElem?_getD,List.getD_eq_getElem?_getD,List.getElem?_set];by_cases h : x = t
 · subst h;simp [hl]
 · have : t.toNat ≠ x.toNat:=by omega
   simp [h,this]
def cnt (M : List Bool) : Nat:=M.countP (fun b => !b)
theorem cnt_set {M : List Bool} {t : Int} (ht : 0 ≤ t) (hl : t.toNat < M.length) (h : mt M t = false) : cnt (M.set t.toNat true) + 1 = cnt M:=by
 have hg : M[t.toNat] = false:=by
  have:=h;unfold mt rdOf at this
  rwa [List.getD_eq_getElem?_getD,List.getElem?_eq_getElem hl] at this
 unfold cnt;rw [List.countP_set hl];have hp : 0 < M.countP (fun b => !b):=List.countP_pos_iff.2 ⟨M[t.toNat],List.getElem_mem hl,by rw [hg];rfl⟩;simp [hg];omega
inductive F (g : Int → List Int) (n : Nat) : List Int → List Bool → List Int → List Bool → List Int → Prop
 | nil {M O} : F g n [] M O M O
 | skip {t ts M O M' O'} (h : ¬ (0 ≤ t ∧ t < (n : Int) ∧ mt M t = false)) (r : F g n ts M O M' O') : F g n (t :: ts) M O M' O'
 | go {t ts M O M1 O1 M' O'} (h0 : 0 ≤ t) (h1 : t < (n : Int)) (h2 : mt M t = false) (v : F g n (g t) (M.set t.toNat true) O M1 O1) (r : F g n ts M1 (O1 ++ [t]) M' O') : F g n (t :: ts) M O M' O'
theorem F.len {g : Int → List Int} {n : Nat} {ts : List Int} {M O M' O'} (h : F g n ts M O M' O') : M'.length = M.length:=by
 induction h with
 | nil => rfl
 | skip _ _ ih => exact ih
 | go _ _ _ _ _ ih1 ih2 => rw [ih2,ih1,List.length_set]
theorem F.num {g : Int → List Int} {n : Nat} {ts : List Int} {M O M' O'} (h : F g n ts M O M' O') (hl : M.length = n) : O'.length + cnt M' ≤ O.length + cnt M ∧ cnt M' ≤ cnt M:=by
 induction h with
 | nil => exact ⟨Nat.le_refl _,Nat.le_refl _⟩
 | skip _ _ ih => exact ih hl
 | @go t ts M O M1 O1 M' O' h0 h1 h2 v r ih1 ih2 =>
  have e1:=ih1 (by rw [List.length_set];exact hl);have e2:=ih2 (by rw [v.len,List.length_set];exact hl);have e3:=cnt_set h0 (by omega) h2;simp only [List.length_append,List.length_singleton] at e2;omega
theorem F.exists {g : Int → List Int} {n : Nat} : ∀ (u : Nat) (ts : List Int) (M : List Bool) (O : List Int),M.length = n → cnt M ≤ u → ∃ M' O',F g n ts M O M' O' := by
 intro u;induction u with
 | zero =>
  intro ts;induction ts with
  | nil => exact fun M O _ _ => ⟨M,O,.nil⟩
  | cons t ts ih =>
   intro M O hl hu;obtain ⟨M',O',h⟩:=ih M O hl hu;refine ⟨M',O',.skip (fun hc => ?_) h⟩;obtain ⟨c1,c2,c3⟩:=hc;have:=cnt_set c1 (by omega) c3;omega
 | succ u ihu =>
  intro ts;induction ts with
  | nil => exact fun M O _ _ => ⟨M,O,.nil⟩
  | cons t ts ih =>
   intro M O hl hu;by_cases hc : 0 ≤ t ∧ t < (n : Int) ∧ mt M t = false
   · obtain ⟨c1,c2,c3⟩:=hc;have e:=cnt_set c1 (by omega) c3;obtain ⟨M1,O1,h1⟩:=ihu (g t) (M.set t.toNat true) O (by rw [List.length_set];exact hl) (by omega);have d1:=h1.num (by rw [List.length_set];exact hl);obtain ⟨M',O',h2⟩:=ih M1 (O1 ++ [t]) (by rw [h1.len,List.length_set];exact hl) (by omega);exact ⟨M',O',.go c1 c2 c3 h1 h2⟩
   · obtain ⟨M',O',h⟩:=ih M O hl hu;exact ⟨M',O',.skip hc h⟩
def Bef (L : List Int) (x p : Int) : Prop:=∃ u v,L = u ++ v ∧ x ∈ u ∧ p ∈ v
theorem Bef.append {L : List Int} {x p : Int} (h : Bef L x p) (a b : List Int) : Bef (a ++ L ++ b) x p:=by
 obtain ⟨u,v,rfl,h1,h2⟩:=h;exact ⟨a ++ u,v ++ b,by simp,by simp [h1],by simp [h2]⟩
inductive Way (g : Int → List Int) (n : Nat) : Int → Int → Prop
 | here {a} : Way g n a a
 | step {a b c} (r : Way g n a b) (h : c ∈ g b) (h0 : 0 ≤ c) (h1 : c < (n : Int)) : Way g n a c
theorem Way.trans {g : Int → List Int} {n : Nat} {a b c : Int} (h : Way g n a b) (k : Way g n b c) : Way g n a c:=by
 induction k with
 | here => exact h
 | step _ h1 h2 h3 ih => exact .step ih h1 h2 h3
theorem F.props {g : Int → List Int} {n : Nat} {ts : List Int} {M O M' O'} (h : F g n ts M O M' O') (hl : M.length = n) :
 (∀ x,0 ≤ x → mt M x = true → mt M' x = true) ∧ ∃ N : List Int,O' = O ++ N ∧ N.Nodup ∧ (∀ x,x ∈ N ↔ 0 ≤ x ∧ x < (n : Int) ∧ mt M x = false ∧ mt M' x = true) ∧
  (∀ x ∈ N,∀ t ∈ g x,0 ≤ t → t < (n : Int) → mt M' t = true) ∧ (∀ t ∈ ts,0 ≤ t → t < (n : Int) → mt M' t = true) ∧
  (∀ x ∈ N,x ∈ ts ∨ ∃ p ∈ N,x ∈ g p ∧ Bef N x p) ∧ (∀ x ∈ N,∃ t ∈ ts,0 ≤ t ∧ t < (n : Int) ∧ Way g n t x):=by
 induction h with
 | nil =>
  refine ⟨fun _ _ h => h,[],by simp,List.nodup_nil,fun x => ⟨fun h => (List.not_mem_nil h).elim,fun h => ?_⟩,fun x h => (List.not_mem_nil h).elim,fun x h => (List.not_mem_nil h).elim,fun x h => (List.not_mem_nil h).elim,fun x h => (List.not_mem_nil h).elim⟩;obtain ⟨_,_,h3,h4⟩:=h;rw [h3] at h4;cases h4
 | @skip t ts M O M' O' hs r ih =>
  obtain ⟨h1,N,h2,h3,h4,h5,h6,h7,h8⟩:=ih hl;refine ⟨h1,N,h2,h3,h4,h5,?_,fun x hx => (h7 x hx).imp (List.mem_cons_of_mem _) id,fun x hx => ?_⟩
  · intro y hy y0 y1;rcases List.mem_cons.1 hy with rfl|hy
    · refine h1 y y0 ?_;cases hm : mt M y with
      | true => rfl
      | false => exact absurd ⟨y0,y1,hm⟩ hs
    · exact h6 y hy y0 y1
  · obtain ⟨z,hz,hw⟩:=h8 x hx;exact ⟨z,List.mem_cons_of_mem _ hz,hw⟩
 | @go t ts M O M1 O1 M' O' t0 t1 tm v r ih1 ih2 =>
  have hl1 : (M.set t.toNat true).length = n:=by rw [List.length_set];exact hl
  obtain ⟨a1,N1,a2,a3,a4,a5,a6,a7,a8⟩:=ih1 hl1;obtain ⟨b1,N2,b2,b3,b4,b5,b6,b7,b8⟩:=ih2 (by rw [v.len];exact hl1);have ms : ∀ x,0 ≤ x → mt (M.set t.toNat true) x = if x = t then true else mt M x:=fun x hx => mt_set t0 hx (by omega)
  have mt1 : mt M1 t = true:=a1 t t0 (by rw [ms t t0];simp);have up : ∀ x,0 ≤ x → mt M x = true → mt M1 x = true:=fun x hx h => a1 x hx (by rw [ms x hx];split;rfl;exact h)
  have tN1 : t ∉ N1:=fun h => by
   have:=((a4 t).1 h).2.2.1;rw [ms t t0] at this;simp at this
  have tN2 : t ∉ N2:=fun h => by
   have:=((b4 t).1 h).2.2.1;rw [mt1] at this;cases this
  have dis : ∀ x,x ∈ N1 → x ∉ N2:=fun x h1 h2 => by
   have e1:=((a4 x).1 h1).2.2.2;have e2:=((b4 x).1 h2).2.2.1;rw [e1] at e2;cases e2
  refine ⟨fun x hx h => b1 x hx (up x hx h),N1 ++ t :: N2,by rw [b2,a2];simp,?_,?_,?_,?_,?_,?_⟩
  · rw [List.nodup_append];refine ⟨a3,List.nodup_cons.2 ⟨tN2,b3⟩,fun x hx y hy => ?_⟩;rintro rfl;rcases List.mem_cons.1 hy with rfl|hy
    · exact tN1 hx
    · exact dis _ hx hy
  · intro x;rw [List.mem_append,List.mem_cons];constructor
    · rintro (h|rfl|h)
      · obtain ⟨c1,c2,c3,c4⟩:=(a4 x).1 h;rw [ms x c1] at c3;refine ⟨c1,c2,?_,b1 x c1 c4⟩
        split at c3
        · cases c3
        · exact c3
      · exact ⟨t0,t1,tm,b1 _ t0 mt1⟩
      · obtain ⟨c1,c2,c3,c4⟩:=(b4 x).1 h;refine ⟨c1,c2,?_,c4⟩;cases hm : mt M x with
        | false => rfl
        | true => rw [up x c1 hm] at c3;cases c3
    · rintro ⟨c1,c2,c3,c4⟩;by_cases hx : x = t
      · exact .inr (.inl hx)
      · cases hm : mt M1 x with
        | true => exact .inl ((a4 x).2 ⟨c1,c2,by rw [ms x c1,if_neg hx];exact c3,hm⟩)
        | false => exact .inr (.inr ((b4 x).2 ⟨c1,c2,hm,c4⟩))
  · intro x hx y hy y0 y1;rcases List.mem_append.1 hx with h|h
    · exact b1 y y0 (a5 x h y hy y0 y1)
    · rcases List.mem_cons.1 h with rfl|h
      · exact b1 y y0 (a6 y hy y0 y1)
      · exact b5 x h y hy y0 y1
  · intro y hy y0 y1;rcases List.mem_cons.1 hy with rfl|hy
    · exact b1 _ y0 mt1
    · exact b6 y hy y0 y1
  · intro x hx;rcases List.mem_append.1 hx with h|h
    · rcases a7 x h with h7 | ⟨p,hp,hg,hb⟩
      · exact .inr ⟨t,by simp,h7,⟨N1,t :: N2,rfl,h,by simp⟩⟩
      · exact .inr ⟨p,List.mem_append_left _ hp,hg,by simpa using hb.append [] (t :: N2)⟩
    · rcases List.mem_cons.1 h with rfl|h
      · exact .inl (by simp)
      · rcases b7 x h with h7 | ⟨p,hp,hg,hb⟩
        · exact .inl (List.mem_cons_of_mem _ h7)
        · exact .inr ⟨p,List.mem_append_right _ (List.mem_cons_of_mem _ hp),hg,by simpa using hb.append (N1 ++ [t]) []⟩
  · intro x hx;rcases List.mem_append.1 hx with h|h
    · obtain ⟨z,hz,z0,z1,hw⟩:=a8 x h;exact ⟨t,by simp,t0,t1,Way.trans (.step .here hz z0 z1) hw⟩
    · rcases List.mem_cons.1 h with rfl|h
      · exact ⟨x,by simp,t0,t1,.here⟩
      · obtain ⟨z,hz,hw⟩:=b8 x h;exact ⟨z,List.mem_cons_of_mem _ hz,hw⟩
end Go.Proofs.Ytbklmnieakefnaa.Q
namespace Go.Proofs.Ytbklmnieakefnaa.Q
set_option linter.unusedVariables false
structure Env (Rm : Int → Prop) (pl : Int → Int) (E : Int → Int → Prop) : Prop where
 r0 : Rm 0
 inj : ∀ x y,Rm x → Rm y → pl x = pl y → x = y
 top : ∀ x,Rm x → pl x ≤ pl 0
 nat : ∀ x,Rm x → 0 ≤ x
 pos : ∀ x,Rm x → 0 ≤ pl x
 both : ∀ p b,E p b → Rm p ∧ Rm b
 par : ∀ b,Rm b → b ≠ 0 → ∃ p,E p b ∧ pl b < pl p
inductive Up (D : Int → Int) : Int → Int → Prop
 | refl (x) : Up D x x
 | step {x y} (h : x ≠ 0) (r : Up D (D x) y) : Up D x y
structure WF (Rm : Int → Prop) (pl : Int → Int) (D : Int → Int) : Prop where
 d0 : D 0 = 0
 up : ∀ x,Rm x → x ≠ 0 → 0 ≤ D x → Rm (D x) ∧ pl x < pl (D x) ∧ 0 ≤ D (D x)
theorem Up.trans {D : Int → Int} {x y z : Int} (h : Up D x y) (k : Up D y z) : Up D x z:=by
 induction h with
 | refl => exact k
 | step h _ ih => exact .step h (ih k)
section
variable {Rm : Int → Prop} {pl : Int → Int} {E : Int → Int → Prop} {D : Int → Int}
theorem Up.facts {x y : Int} (h : Up D x y) (hw : WF Rm pl D) (hx : Rm x) (hd : 0 ≤ D x) : Rm y ∧ 0 ≤ D y ∧ pl x ≤ pl y ∧ (pl x = pl y → x = y):=by
 induction h with
 | refl => exact ⟨hx,hd,Int.le_refl _,fun _ => rfl⟩
 | @step x y h0 r ih =>
  obtain ⟨h1,h2,h3⟩:=hw.up x hx h0 hd;obtain ⟨h4,h5,h6,_⟩:=ih h1 h3;exact ⟨h4,h5,by omega,fun e => by omega⟩
theorem Up.next {x y : Int} (h : Up D x y) (hne : x ≠ y) : x ≠ 0 ∧ Up D (D x) y:=by
 cases h with
 | refl => exact absurd rfl hne
 | step h r => exact ⟨h,r⟩
theorem Up.same {D' : Int → Int} {x y : Int} (h : Up D x y) (hw : WF Rm pl D) (hx : Rm x) (hd : 0 ≤ D x) (hs : ∀ z,Up D x z → Up D z y → z ≠ y → D' z = D z) : Up D' x y:=by
 induction h with
 | refl => exact .refl _
 | @step x y h0 r ih =>
  obtain ⟨h1,h2,h3⟩:=hw.up x hx h0 hd;have hy:=(r.facts hw h1 h3).2.2.1;have e : D' x = D x:=hs x (.refl _) (.step h0 r) (fun e => by subst e;omega);refine .step h0 ?_;rw [e];exact ih h1 h3 (fun z hz hzy hne => hs z (.step h0 hz) hzy hne)
def chg (D : Int → Int) (b d : Int) : Int → Int:=fun x => if x = b then d else D x
theorem chg_at (D : Int → Int) (b d : Int) : chg D b d b = d:=by simp [chg]
theorem chg_ne {D : Int → Int} {b d x : Int} (h : x ≠ b) : chg D b d x = D x:=by simp [chg,h]
theorem Up.above {b d x y : Int} (h : Up D x y) (hw : WF Rm pl D) (hx : Rm x) (hd : 0 ≤ D x) (hb : pl b < pl x) : Up (chg D b d) x y :=
 h.same hw hx hd (fun z hz _ _ => chg_ne (fun e => by have:=(hz.facts hw hx hd).2.2.1;subst e;omega))
theorem WF.chg {b d : Int} (hw : WF Rm pl D) (hb : b ≠ 0) (hd : Rm d) (hn : 0 ≤ d) (hdd : 0 ≤ D d) (hlt : pl b < pl d) : WF Rm pl (chg D b d):=by
 refine ⟨by rw [chg_ne (Ne.symm hb)];exact hw.d0,fun x hx h0 hdx => ?_⟩;have hdb : d ≠ b:=fun e => by subst e;omega
 by_cases e : x = b
 · subst e;rw [chg_at,chg_ne hdb];exact ⟨hd,hlt,hdd⟩
 · rw [chg_ne e] at hdx ⊢;obtain ⟨h1,h2,h3⟩:=hw.up x hx h0 hdx;refine ⟨h1,h2,?_⟩;by_cases e2 : D x = b
   · rw [e2,chg_at];exact hn
   · rw [chg_ne e2];exact h3
inductive Inc (pl : Int → Int) (E : Int → Int → Prop) : Int → Int → Prop
 | refl (x) : Inc pl E x x
 | step {y p x} (r : Inc pl E y p) (h : E p x) (hl : pl x < pl p) : Inc pl E y x
def ComT (E : Int → Int → Prop) (D : Int → Int) (b y : Int) : Prop:=∀ p,E p b → 0 ≤ D p → Up D p y
structure IsBest (Rm : Int → Prop) (E : Int → Int → Prop) (D : Int → Int) (b d : Int) : Prop where
 r : Rm d
 t : 0 ≤ D d
 c : ComT E D b d
 g : ∀ y,ComT E D b y → Up D d y
structure Inv (Rm : Int → Prop) (pl : Int → Int) (E Dm : Int → Int → Prop) (D : Int → Int) : Prop where
 w : WF Rm pl D
 lim : ∀ b,Rm b → b ≠ 0 → 0 ≤ D b → ∀ y,ComT E D b y → pl (D b) ≤ pl y
 inc : ∀ x y,Rm x → 0 ≤ D x → Up D x y → Inc pl E y x
 keep : ∀ x y,Rm x → 0 ≤ D x → Dm y x → Up D x y
section
variable {Dm : Int → Int → Prop}
theorem chg_told {b d : Int} (hn : 0 ≤ d) {x : Int} (h : 0 ≤ D x) : 0 ≤ chg D b d x:=by
 unfold chg;split
 · exact hn
 · exact h
theorem Up.old {b d x y : Int} (h : Up (chg D b d) x y) (hw : WF Rm pl D) (hx : Rm x) (hd : 0 ≤ D x) (hb : D b < 0) : Up D x y:=by
 induction h with
 | refl => exact .refl _
 | @step x y h0 r ih =>
  have e : chg D b d x = D x:=chg_ne (fun e => by subst e;omega);obtain ⟨h1,h2,h3⟩:=hw.up x hx h0 hd;rw [e] at r ih;exact .step h0 (ih h1 h3)
theorem Up.new {b d x y : Int} (h : Up D x y) (hw : WF Rm pl D) (hx : Rm x) (hd : 0 ≤ D x) (hb : D b < 0) : Up (chg D b d) x y :=
 h.same hw hx hd (fun z hz _ _ => chg_ne (fun e => by have:=(hz.facts hw hx hd).2.1;subst e;omega))
theorem Inv.first (he : Env Rm pl E) (h1 : ∀ y b p,Dm y b → y ≠ b → E p b → Dm y p) (h : Inv Rm pl E Dm D) {b d : Int} (hb : Rm b) (hb0 : b ≠ 0) (hu : D b < 0) {p0 : Int} (hp0 : E p0 b) (hl0 : pl b < pl p0) (ht0 : 0 ≤ D p0) (hB : IsBest Rm E D b d) :
 Inv Rm pl E Dm (chg D b d) ∧ pl b < pl d ∧ 0 ≤ d:=by
 have hn:=he.nat d hB.r;have hpd:=(hB.c p0 hp0 ht0).facts h.w (he.both _ _ hp0).1 ht0;have hlt : pl b < pl d:=by have:=hpd.2.2.1;omega
 have hw' := h.w.chg hb0 hB.r hn hB.t hlt;have back : ∀ x y,Rm x → 0 ≤ D x → Up (chg D b d) x y → Up D x y:=fun x y hx hd hu' => hu'.old h.w hx hd hu
 have comb : ∀ b2 y,ComT E (chg D b d) b2 y → ComT E D b2 y:=fun b2 y hc p hp ht => back p y (he.both _ _ hp).1 ht (hc p hp (chg_told hn ht))
 refine ⟨⟨hw',?_,?_,?_⟩,hlt,hn⟩
 · intro b2 hr h0 ht y hc;by_cases e : b2 = b
   · subst e;rw [chg_at];exact ((hB.g y (comb _ _ hc)).facts h.w hB.r hB.t).2.2.1
   · rw [chg_ne e] at ht ⊢;exact h.lim b2 hr h0 ht y (comb _ _ hc)
 · intro x y hx ht hup;by_cases e : x = b
   · subst e;cases hup with
     | refl => exact .refl _
     | step _ r =>
      rw [chg_at] at r;have r2:=back d y hB.r hB.t r;exact .step (h.inc p0 y (he.both _ _ hp0).1 ht0 ((hB.c p0 hp0 ht0).trans r2)) hp0 hl0
   · rw [chg_ne e] at ht;exact h.inc x y hx ht (back x y hx ht hup)
 · intro x y hx ht hdm;by_cases e : x = b
   · subst e;by_cases e2 : y = x
     · rw [e2];exact .refl _
     · have hc : ComT E D x y:=fun p hp htp => h.keep p y (he.both _ _ hp).1 htp (h1 y x p hdm e2 hp)
       refine .step hb0 ?_;rw [chg_at];exact (hB.g y hc).new h.w hB.r hB.t hu
   · rw [chg_ne e] at ht;exact (h.keep x y hx ht hdm).new h.w hx ht hu
theorem Inv.later (he : Env Rm pl E) (h1 : ∀ y b p,Dm y b → y ≠ b → E p b → Dm y p) (h2 : ∀ y x b,Dm y x → Inc pl E b x → pl b < pl y → Dm y b) (h : Inv Rm pl E Dm D) (hall : ∀ x,Rm x → 0 ≤ D x) {b d : Int} (hb : Rm b) (hb0 : b ≠ 0)
 (hB : IsBest Rm E D b d) (hup : Up D (D b) d) : Inv Rm pl E Dm (chg D b d) ∧ pl b < pl d ∧ 0 ≤ d ∧ ∀ x y,Rm x → Up (chg D b d) x y → Up D x y:=by
 have hn:=he.nat d hB.r;obtain ⟨w1,w2,w3⟩:=h.w.up b hb hb0 (hall b hb);have hlt : pl b < pl d:=by have:=(hup.facts h.w w1 w3).2.2.1;omega
 have hw' := h.w.chg hb0 hB.r hn hB.t hlt;have hall' : ∀ x,Rm x → 0 ≤ chg D b d x:=fun x hx => chg_told hn (hall x hx)
 have back : ∀ x y,Rm x → Up (chg D b d) x y → Up D x y:=by
  intro x y hx hu;induction hu with
  | refl => exact .refl _
  | @step x y h0 r ih =>
   by_cases e : x = b
   · subst e;rw [chg_at] at r ih;exact .step h0 (hup.trans (ih hB.r))
   · rw [chg_ne e] at r ih;exact .step h0 (ih (h.w.up x hx h0 (hall x hx)).1)
 have comb : ∀ b2 y,ComT E (chg D b d) b2 y → ComT E D b2 y:=fun b2 y hc p hp ht => back p y (he.both _ _ hp).1 (hc p hp (chg_told hn ht))
 have dn : Up D d = Up D d:=rfl;have upd : ∀ y,Up D d y → Up (chg D b d) b y:=fun y hy => by
  refine .step hb0 ?_;rw [chg_at];exact hy.above h.w hB.r hB.t hlt
 refine ⟨⟨hw',?_,?_,?_⟩,hlt,hn,back⟩
 · intro b2 hr h0 ht y hc;by_cases e : b2 = b
   · subst e;rw [chg_at];exact ((hB.g y (comb _ _ hc)).facts h.w hB.r hB.t).2.2.1
   · rw [chg_ne e];exact h.lim b2 hr h0 (hall b2 hr) y (comb _ _ hc)
 · exact fun x y hx _ hu => h.inc x y hx (hall x hx) (back x y hx hu)
 · intro x y hx _ hdm;have bcase : ∀ z,Dm z b → Up (chg D b d) b z:=by
    intro z hz;by_cases e2 : z = b
    · rw [e2];exact .refl _
    · exact upd z (hB.g z (fun p hp htp => h.keep p z (he.both _ _ hp).1 htp (h1 z b p hz e2 hp)))
   have hxy:=h.keep x y hx (hall x hx) hdm;by_cases hm : Up D x b ∧ Up D b y ∧ b ≠ y
   · obtain ⟨m1,m2,m3⟩:=hm;have f:=m2.facts h.w hb (hall b hb);have hlt2 : pl b < pl y:=by
      have:=f.2.2.1;by_cases e : pl b = pl y
      · exact absurd (f.2.2.2 e) m3
      · omega
     have c1:=bcase y (h2 y x b hdm (h.inc x b hx (hall x hx) m1) hlt2);exact Up.trans (m1.same h.w hx (hall x hx) (fun z _ _ hne => chg_ne hne)) c1
   · exact hxy.same h.w hx (hall x hx) (fun z hz hzy hne => chg_ne (fun e => hm ⟨e ▸ hz,e ▸ hzy,e ▸ hne⟩))
end
end
end Go.Proofs.Ytbklmnieakefnaa.Q
namespace Go.Proofs.Ytbklmnieakefnaa.Q
open Go.RowKit Go.Proofs.YtbklmnieakefnaaW.PrintWords
set_option linter.unusedVariables false
theorem up_ {α : Type} {f : Nat → Option α} (h : ∀ k,LeO (f k) (f (k + 1))) {k k' : Nat} (hk : k ≤ k') {r : α} (e : f k = some r) : f k' = some r:=by
 induction hk with
 | refl => exact e
 | step _ ih => exact h _ _ ih
theorem drop_rd {xs ts : List Int} {i : Nat} {t : Int} (h : xs.drop i = t :: ts) : i < xs.length ∧ rd xs (i : Int) = t ∧ xs.drop (i + 1) = ts:=by
 have hi : i < xs.length:=by
  by_cases hc : i < xs.length
  · exact hc
  · rw [List.drop_of_length_le (by omega)] at h;cases h
 rw [List.drop_eq_getElem_cons hi] at h;obtain ⟨h1,h2⟩:=List.cons.inj h;exact ⟨hi,by simp [rd,List.getD_eq_getElem?_getD,hi,h1],h2⟩
def succs (l : List S45) (b : Int) : List Int:=(rd_T45 l b).f3
def Small (l : List S45) : Prop:=l.length ≤ 1048576 ∧ ∀ y ∈ l,y.f3.length ≤ 1048576
theorem Small.row {l : List S45} (h : Small l) (b : Int) : (succs l b).length ≤ 1048576:=by
 unfold succs rd_T45;rw [List.getD_eq_getElem?_getD];cases hg : l[b.toNat]? with
 | none => simp [z45]
 | some y => exact h.2 y (List.mem_of_getElem? hg)
theorem w64 {i : Nat} (h : i ≤ 2097152) : wrap64 ((i : Int) + 1) = ((i + 1 : Nat) : Int):=by unfold wrap64;omega
theorem F.root {g : Int → List Int} {n : Nat} {M' : List Bool} {O' : List Int} (h : F g n [0] (List.replicate n false) [] M' O') (hn : 0 < n) : ∃ O1,F g n (g 0) ((List.replicate n false).set 0 true) [] M' O1 ∧ O' = O1 ++ [0]:=by
 cases h with
 | skip hs r => exact absurd ⟨Int.le_refl _,by omega,by simp [mt,rdOf,List.getD_eq_getElem?_getD,hn]⟩ hs
 | go _ _ _ v r =>
  cases r with
  | nil => exact ⟨_,v,rfl⟩
theorem cnt_replicate (n : Nat) : cnt (List.replicate n false) = n:=by simp [cnt,List.countP_replicate]
end Go.Proofs.Ytbklmnieakefnaa.Q
namespace Go.Proofs.Ytbklmnieakefnaa.Q
open Go.RowKit Go.Proofs.YtbklmnieakefnaaW.PrintWords
set_option linter.unusedVariables false
theorem rd_set {N : List Int} {b x v : Int} (hb : 0 ≤ b) (hx : 0 ≤ x) (hl : b.toNat < N.length) : rd (N.set b.toNat v) x = if x = b then v else rd N x:=by
 unfold rd;rw [List.getD_eq_getElem?_getD,List.getD_eq_getElem?_getD,List.getElem?_set];by_cases h : x = b
 · subst h;simp [hl]
 · have : b.toNat ≠ x.toNat:=by omega
   simp [h,this]
section
variable {a0 : ByteArray} {a1 a2 a3 : Int} {l : List S45}
theorem it_top {k : Nat} {O S : List Int} {M : List Bool} {N : List Int} {b r} (hS : S.length ≤ 1048576) (h : fD.l2 k l.length O (S ++ [b]) M N b a0 a1 a2 a3 l = some r) : fD.l1 (k + 1) l.length O (S ++ [b]) M N a0 a1 a2 a3 l = some r:=by
 have e : wrap64 (((S ++ [b]).length : Int) - 1) = (S.length : Int):=by
  have e1 : (((S ++ [b]).length : Int) - 1) = (S.length : Int):=by simp
  rw [e1];unfold wrap64;omega
 rw [fD.l1,e,if_pos (by omega),if_pos (by simp;omega)];have e2 : rd (S ++ [b]) (S.length : Int) = b:=by simp [rd,List.getD_eq_getElem?_getD]
 rw [e2];exact h
theorem it_come {k : Nat} {O S : List Int} {M : List Bool} {N : List Int} {b r} (hS : S.length ≤ 1048576) (b0 : 0 ≤ b) (b1 : b < (M.length : Int)) (h : fD.l2 k l.length O (S ++ [b]) (M.set b.toNat true) N b a0 a1 a2 a3 l = some r) : fD.l0 (k + 2) l.length O S M N b a0 a1 a2 a3 l = some r:=by
 rw [fD.l0,if_pos b0,if_pos b1,if_pos (by omega)];exact it_top hS h
theorem it_pop {k : Nat} {O S : List Int} {M : List Bool} {N : List Int} {b c r} (hs : Small l) (hS : S.length ≤ 1048575) (hO : O.length ≤ 1048576) (b0 : 0 ≤ b) (b1 : b < (l.length : Int)) (hN : N.length = l.length) (hb : rd N b = ((succs l b).length : Int))
 (h : fD.l2 k l.length (O ++ [b]) (S ++ [c]) M N c a0 a1 a2 a3 l = some r) : fD.l2 (k + 2) l.length O (S ++ [c] ++ [b]) M N b a0 a1 a2 a3 l = some r:=by
 have e : wrap64 (((S ++ [c] ++ [b]).length : Int) - 1) = ((S ++ [c]).length : Int):=by
  have e1 : (((S ++ [c] ++ [b]).length : Int) - 1) = ((S ++ [c]).length : Int):=by simp;omega
  have : (S ++ [c]).length ≤ 1048576:=by simp;omega
  rw [e1];unfold wrap64;omega
 rw [fD.l2,show (rd_T45 l b).f3 = succs l b from rfl,if_pos b0,if_pos (by rw [hN];exact b1),if_pos b1,if_neg (by rw [hb];omega),if_pos (by omega),Option.bind_some,e,if_pos (by omega),if_pos (by simp),Option.bind_some];have e2 : (S ++ [c] ++ [b]).take ((S ++ [c]).length : Int).toNat = S ++ [c]:=by rw [Int.toNat_natCast];exact List.take_left
 rw [e2,if_pos (by simp)];exact it_top (by omega) h
theorem it_last {k : Nat} {O : List Int} {M : List Bool} {N : List Int} {b : Int} (hs : Small l) (hO : O.length ≤ 1048576) (b0 : 0 ≤ b) (b1 : b < (l.length : Int)) (hN : N.length = l.length) (hb : rd N b = ((succs l b).length : Int)) :
 fD.l2 (k + 1) l.length O [b] M N b a0 a1 a2 a3 l = some (O ++ [b]):=by
 have e : wrap64 ((([b] : List Int).length : Int) - 1) = 0:=by simp [wrap64]
 rw [fD.l2,show (rd_T45 l b).f3 = succs l b from rfl,if_pos b0,if_pos (by rw [hN];exact b1),if_pos b1,if_neg (by rw [hb];omega),if_pos (by omega),Option.bind_some,e,if_pos (by omega),if_pos (by simp),Option.bind_some];simp
theorem it_next {k i : Nat} {O S : List Int} {M : List Bool} {N : List Int} {b t r} (hs : Small l) (b0 : 0 ≤ b) (b1 : b < (l.length : Int)) (hN : N.length = l.length) (hM : M.length = l.length) (hb : rd N b = (i : Int)) (hi : i < (succs l b).length) (ht : rd (succs l b) (i : Int) = t)
 (h : if 0 ≤ t ∧ t < (l.length : Int) ∧ mt M t = false then fD.l0 k l.length O S M (N.set b.toNat ((i + 1 : Nat) : Int)) t a0 a1 a2 a3 l = some r else fD.l2 k l.length O S M (N.set b.toNat ((i + 1 : Nat) : Int)) b a0 a1 a2 a3 l = some r) :
 fD.l2 (k + 1) l.length O S M N b a0 a1 a2 a3 l = some r:=by
 have hr:=hs.row b;rw [fD.l2,show (rd_T45 l b).f3 = succs l b from rfl,if_pos b0,if_pos (by rw [hN];exact b1),if_pos b1,hb,if_pos (by omega),if_pos (by omega),Option.bind_some,ht,w64 (by omega)];by_cases c0 : t ≥ 0
 · rw [if_pos c0];by_cases c1 : t < (l.length : Int)
   · rw [if_pos c1,if_pos c0,if_pos (by rw [hM];exact c1)];by_cases cm : rdOf false M t = true
     · rw [if_pos cm];rw [if_neg (fun hc => by have:=hc.2.2;rw [show mt M t = true from cm] at this;cases this)] at h;exact h
     · rw [if_neg cm];rw [if_pos ⟨c0,c1,by simpa using cm⟩] at h;exact h
   · rw [if_neg c1];rw [if_neg (fun hc => c1 hc.2.1)] at h;exact h
 · rw [if_neg c0];rw [if_neg (fun hc => c0 hc.1)] at h;exact h
theorem it_walk (hs : Small l) {ts : List Int} {M M' : List Bool} {O O' : List Int} (h : F (succs l) l.length ts M O M' O') : M.length = l.length → O.length + cnt M ≤ l.length →
 ∀ (b : Int) (i : Nat) (S N : List Int),0 ≤ b → b < (l.length : Int) → (succs l b).drop i = ts → i ≤ (succs l b).length → N.length = l.length → rd N b = (i : Int) →
  (∀ x,0 ≤ x → x < (l.length : Int) → mt M x = false → rd N x = 0) → mt M b = true → S.length + 1 + cnt M ≤ l.length →
  ∃ N' : List Int,N'.length = l.length ∧ rd N' b = ((succs l b).length : Int) ∧ (∀ x,0 ≤ x → x < (l.length : Int) → x ≠ b → mt M x = true → rd N' x = rd N x) ∧ (∀ x,0 ≤ x → x < (l.length : Int) → mt M' x = false → rd N' x = 0) ∧
   ∀ K r,fD.l2 K l.length O' (S ++ [b]) M' N' b a0 a1 a2 a3 l = some r → ∃ K',fD.l2 K' l.length O (S ++ [b]) M N b a0 a1 a2 a3 l = some r:=by
 induction h with
 | @nil M O =>
  intro hl hc b i S N b0 b1 hd hi hN hb hz hm hS;have e : i = (succs l b).length:=by
   have:=congrArg List.length hd;simp at this;omega
  exact ⟨N,hN,by rw [hb,e],fun _ _ _ _ _ => rfl,hz,fun K r h => ⟨K,h⟩⟩
 | @skip t ts M O M' O' hsk r ih =>
  intro hl hc b i S N b0 b1 hd hi hN hb hz hm hS;obtain ⟨hi2,ht,hd2⟩:=drop_rd hd;have hset : ∀ x,0 ≤ x → rd (N.set b.toNat ((i + 1 : Nat) : Int)) x = if x = b then ((i + 1 : Nat) : Int) else rd N x:=fun x hx => rd_set b0 hx (by omega)
  obtain ⟨N',n1,n2,n3,n4,n5⟩:=ih hl hc b (i + 1) S (N.set b.toNat ((i + 1 : Nat) : Int)) b0 b1 hd2 (by omega) (by rw [List.length_set];exact hN) (by rw [hset b b0,if_pos rfl])
   (fun x x0 x1 hx => by rw [hset x x0,if_neg (fun e => by rw [e,hm] at hx;cases hx)];exact hz x x0 x1 hx) hm hS
  refine ⟨N',n1,n2,fun x x0 x1 hx hmx => by rw [n3 x x0 x1 hx hmx,hset x x0,if_neg hx],n4,fun K r h => ?_⟩;obtain ⟨K',hK⟩:=n5 K r h;exact ⟨K' + 1,it_next hs b0 b1 hN hl hb hi2 ht (by rw [if_neg hsk];exact hK)⟩
 | @go t ts M O M1 O1 M' O' t0 t1 tm v r ih1 ih2 =>
  intro hl hc b i S N b0 b1 hd hi hN hb hz hm hS;obtain ⟨hi2,ht,hd2⟩:=drop_rd hd;have hset : ∀ x,0 ≤ x → rd (N.set b.toNat ((i + 1 : Nat) : Int)) x = if x = b then ((i + 1 : Nat) : Int) else rd N x:=fun x hx => rd_set b0 hx (by omega)
  have hl1 : (M.set t.toNat true).length = l.length:=by rw [List.length_set];exact hl
  have e:=cnt_set t0 (by omega) tm;have nm:=v.num hl1;have tb : t ≠ b:=fun e => by rw [e,hm] at tm;cases tm
  have ms : ∀ x,0 ≤ x → mt (M.set t.toNat true) x = if x = t then true else mt M x:=fun x hx => mt_set t0 hx (by omega)
  have up:=(v.props hl1).1;obtain ⟨N2,p1,p2,p3,p4,p5⟩:=ih1 hl1 (by omega) t 0 (S ++ [b]) (N.set b.toNat ((i + 1 : Nat) : Int)) t0 t1 rfl (Nat.zero_le _) (by rw [List.length_set];exact hN) (by rw [hset t t0,if_neg tb,hz t t0 t1 tm];rfl)
   (fun x x0 x1 hx => by
    rw [ms x x0] at hx
    split at hx
    · cases hx
    · rw [hset x x0,if_neg (fun e => by rw [e,hm] at hx;cases hx)];exact hz x x0 x1 hx) (by rw [ms t t0,if_pos rfl]) (by simp;omega)
  have mb : mt (M.set t.toNat true) b = true:=by rw [ms b b0,if_neg (Ne.symm tb)];exact hm
  obtain ⟨N',q1,q2,q3,q4,q5⟩:=ih2 (by rw [v.len];exact hl1) (by simp only [List.length_append,List.length_singleton];omega) b (i + 1) S N2 b0 b1 hd2 (by omega) p1 (by rw [p3 b b0 b1 (Ne.symm tb) mb,hset b b0,if_pos rfl]) p4 (up b b0 mb) (by omega);refine ⟨N',q1,q2,fun x x0 x1 hx hmx => ?_,q4,fun K r h => ?_⟩
  · have xt : x ≠ t:=fun e => by rw [e,tm] at hmx;cases hmx
    have mx : mt (M.set t.toNat true) x = true:=by rw [ms x x0,if_neg xt];exact hmx
    rw [q3 x x0 x1 hx (up x x0 mx),p3 x x0 x1 xt mx,hset x x0,if_neg hx]
  · have hsl:=hs.1;obtain ⟨K1,h1⟩:=q5 K r h;obtain ⟨K3,h3⟩:=p5 _ r (it_pop hs (by omega) (by omega) t0 t1 p1 p2 h1);exact ⟨K3 + 2 + 1,it_next hs b0 b1 hN hl hb hi2 ht (by rw [if_pos ⟨t0,t1,tm⟩];exact it_come (by simp;omega) t0 (by omega) h3)⟩
theorem it_post (hs : Small l) (hn : 0 < l.length) {M' : List Bool} {O' : List Int} (h : F (succs l) l.length [0] (List.replicate l.length false) [] M' O') : ∃ k,fD.f k a0 a1 a2 a3 l = some O' := by
 obtain ⟨O1,hv,rfl⟩:=h.root hn;have hm : mt (List.replicate l.length false) 0 = false:=by simp [mt,rdOf,List.getD_eq_getElem?_getD,hn]
 have e:=cnt_set (M:=List.replicate l.length false) (t:=0) (Int.le_refl _) (by simpa using hn) hm;rw [cnt_replicate] at e;simp only [Int.toNat_zero] at e;have nm:=hv.num (by simp);have ms : ∀ x,0 ≤ x → mt ((List.replicate l.length false).set 0 true) x = if x = 0 then true else mt (List.replicate l.length false) x:=fun x hx => mt_set (t:=0) (Int.le_refl _) hx (by simpa using hn)
 have z0 : ∀ x : Int,rd (List.replicate l.length 0) x = 0:=fun x => by
  simp only [rd,List.getD_eq_getElem?_getD,List.getElem?_replicate]
  split <;> rfl
 have hsl:=hs.1;obtain ⟨N',p1,p2,_,_,p5⟩:=it_walk (a0:=a0) (a1:=a1) (a2:=a2) (a3:=a3) hs hv (by simp) (by simp only [List.length_nil];omega) 0 0 [] (List.replicate l.length 0) (Int.le_refl _) (by omega) rfl (Nat.zero_le _) (by simp) (z0 _) (fun x _ _ _ => z0 x) (by rw [ms 0 (Int.le_refl _),if_pos rfl]) (by simp only [List.length_nil];omega);obtain ⟨K,hK⟩:=p5 1 _ (it_last hs (by simp only [List.length_nil] at nm;omega) (Int.le_refl _) (by omega) p1 p2);refine ⟨K + 2,?_⟩;rw [fD.f,if_pos (by omega),if_pos (by omega),if_pos (by omega),if_neg (by omega)];simp only [Int.toNat_natCast];exact it_come (S:=[]) (by simp) (Int.le_refl _) (by simpa using hn) hK
end
end Go.Proofs.Ytbklmnieakefnaa.Q
namespace Go.Proofs.Ytbklmnieakefnaa.Q
open Go.RowKit Go.Proofs.YtbklmnieakefnaaW.PrintWords
set_option linter.unusedVariables false
theorem L1_set {X : List (List Int)} {b x : Int} {v : List Int} (hb : 0 ≤ b) (hx : 0 ≤ x) (hl : b.toNat < X.length) : rd_L1 (X.set b.toNat v) x = if x = b then v else rd_L1 X x:=by
 unfold rd_L1;rw [List.getD_eq_getElem?_getD,List.getD_eq_getElem?_getD,List.getElem?_set];by_cases h : x = b
 · subst h;simp [hl]
 · have : b.toNat ≠ x.toNat:=by omega
   simp [h,this]
def PInv (l : List S45) (b i : Nat) (X : List (List Int)) : Prop :=
 X.length = l.length ∧ ∀ t : Int,0 ≤ t → t < (l.length : Int) → (rd_L1 X t).length ≤ b * 1048576 + i ∧ ∀ p : Int,p ∈ rd_L1 X t ↔ (0 ≤ p ∧ p < (b : Int) ∧ t ∈ succs l p) ∨ (p = (b : Int) ∧ t ∈ (succs l b).take i)
def PSpec (l : List S45) (X : List (List Int)) : Prop :=
 X.length = l.length ∧ ∀ t : Int,0 ≤ t → t < (l.length : Int) → (rd_L1 X t).length ≤ 17592186044416 ∧ ∀ p : Int,p ∈ rd_L1 X t ↔ (0 ≤ p ∧ p < (l.length : Int) ∧ t ∈ succs l p)
theorem take_rd {xs : List Int} {i : Nat} (h : i < xs.length) : xs.take (i + 1) = xs.take i ++ [rd xs (i : Int)]:=by
 rw [List.take_add_one];simp [rd,List.getD_eq_getElem?_getD,h]
section
variable {l : List S45}
theorem PInv.skip {b i : Nat} {X : List (List Int)} (h : PInv l b i X) (hi : i < (succs l b).length) (ht : ¬ (0 ≤ rd (succs l b) (i : Int) ∧ rd (succs l b) (i : Int) < (l.length : Int)) ∨ (b : Int) ∈ rd_L1 X (rd (succs l b) (i : Int))) : PInv l b (i + 1) X:=by
 refine ⟨h.1,fun t t0 t1 => ⟨by have:=(h.2 t t0 t1).1;omega,fun p => ?_⟩⟩;rw [(h.2 t t0 t1).2 p,take_rd hi];constructor
 · rintro (h1 | ⟨h1,h2⟩)
   · exact .inl h1
   · exact .inr ⟨h1,List.mem_append_left _ h2⟩
 · rintro (h1 | ⟨h1,h2⟩)
   · exact .inl h1
   · rcases List.mem_append.1 h2 with h2|h2
     · exact .inr ⟨h1,h2⟩
     · have e : t = rd (succs l b) (i : Int):=by simpa using h2
       rcases ht with ht|ht
       · exact absurd ⟨e ▸ t0,e ▸ t1⟩ ht
       · rw [← e] at ht;rw [h1];exact ((h.2 t t0 t1).2 _).1 ht
theorem PInv.add {b i : Nat} {X : List (List Int)} (h : PInv l b i X) (hi : i < (succs l b).length) (h0 : 0 ≤ rd (succs l b) (i : Int)) (h1 : rd (succs l b) (i : Int) < (l.length : Int)) : PInv l b (i + 1) (X.set (rd (succs l b) (i : Int)).toNat (rd_L1 X (rd (succs l b) (i : Int)) ++ [(b : Int)])):=by
 refine ⟨by rw [List.length_set];exact h.1,fun t t0 t1 => ?_⟩;rw [L1_set h0 t0 (by rw [h.1];omega),take_rd hi];by_cases e : t = rd (succs l b) (i : Int)
 · rw [if_pos e];have ht:=h.2 _ h0 h1;refine ⟨by rw [List.length_append,List.length_singleton];have:=ht.1;omega,fun p => ?_⟩;rw [List.mem_append,ht.2 p,← e];constructor
   · rintro ((h2 | ⟨h2,h3⟩)|h2)
     · exact .inl h2
     · exact .inr ⟨h2,List.mem_append_left _ h3⟩
     · exact .inr ⟨by simpa using h2,by simp⟩
   · rintro (h2 | ⟨h2,_⟩)
     · exact .inl (.inl h2)
     · exact .inr (by simp [h2])
 · rw [if_neg e];refine ⟨by have:=(h.2 t t0 t1).1;omega,fun p => ?_⟩;rw [(h.2 t t0 t1).2 p];constructor
   · rintro (h2 | ⟨h2,h3⟩)
     · exact .inl h2
     · exact .inr ⟨h2,List.mem_append_left _ h3⟩
   · rintro (h2 | ⟨h2,h3⟩)
     · exact .inl h2
     · rcases List.mem_append.1 h3 with h3|h3
       · exact .inr ⟨h2,h3⟩
       · exact absurd (by simpa using h3) e
theorem PInv.next {b : Nat} {X : List (List Int)} (hs : Small l) (h : PInv l b (succs l b).length X) : PInv l (b + 1) 0 X:=by
 refine ⟨h.1,fun t t0 t1 => ⟨?_,fun p => ?_⟩⟩
 · have h1:=(h.2 t t0 t1).1;have h2:=hs.row (b : Int);have e : (b + 1) * 1048576 = b * 1048576 + 1048576:=Nat.succ_mul b 1048576;rw [e,Nat.add_zero];exact Nat.le_trans h1 (Nat.add_le_add_left h2 _)
 rw [(h.2 t t0 t1).2 p,List.take_length];constructor
 · rintro (⟨h1,h2,h3⟩ | ⟨h1,h2⟩)
   · exact .inl ⟨h1,by omega,h3⟩
   · exact .inl ⟨by omega,by omega,by rw [h1];exact h2⟩
 · rintro (⟨h1,h2,h3⟩ | ⟨h1,h2⟩)
   · by_cases e : p = (b : Int)
     · exact .inr ⟨e,by rw [← e];exact h3⟩
     · exact .inl ⟨h1,by omega,h3⟩
   · simp at h2
theorem preds_l1 (hs : Small l) {b : Nat} (hb : b < l.length) (ih : ∀ X,PInv l (b + 1) 0 X → ∃ k r,fQ.l0 k X l l.length ((b + 1 : Nat) : Int) = some r ∧ PSpec l r) :
 ∀ (j i : Nat) (X : List (List Int)),i + j = (succs l b).length → PInv l b i X → ∃ k r,fQ.l1 k X b l l.length b (succs l b) ((succs l b).length : Int) i = some r ∧ PSpec l r:=by
 intro j;induction j with
 | zero =>
  intro i X hi h;have e : i = (succs l b).length:=by omega
  subst e;obtain ⟨k,r,h1,h2⟩:=ih X (h.next hs);refine ⟨k + 1,r,?_,h2⟩;have hl:=hs.1;rw [fQ.l1,if_neg (by omega),w64 (by omega)];exact h1
 | succ j ihj =>
  intro i X hi h;have hi' : i < (succs l b).length:=by omega
  have hr:=hs.row (b : Int);have hl:=hs.1;have hwn : wrap64 ((X.length : Int) - 1) = (l.length : Int) - 1:=by rw [h.1];unfold wrap64;omega
  obtain ⟨t,ht⟩ : ∃ t,rd (succs l b) (i : Int) = t:=⟨_,rfl⟩
  have step : ∀ k r (v : Option (List (List Int))),v = some r → (fQ.l1 (k + 1) X b l l.length b (succs l b) ((succs l b).length : Int) i = v) → fQ.l1 (k + 1) X b l l.length b (succs l b) ((succs l b).length : Int) i = some r:=fun k r v e1 e2 => e2.trans e1
  by_cases hin : 0 ≤ t ∧ t < (l.length : Int)
  · have hw : ir_within.f t 0 ((l.length : Int) - 1) = some true:=by
     rw [ir_within.f,if_pos (by omega)];congr 1;exact decide_eq_true (by omega)
    have hlen:=((h.2 t hin.1 hin.2).1)
    have hlt : (rd_L1 X t).length < 17592186044416:=by
     have : b * 1048576 ≤ 1048576 * 1048576:=Nat.mul_le_mul_right _ (by omega);omega
    by_cases he : ((rd_L1 X t).length : Int) = 0
    · have ha:=h.add hi' (by rw [ht];exact hin.1) (by rw [ht];exact hin.2);rw [ht] at ha;obtain ⟨k,r,h1,h2⟩:=ihj (i + 1) _ (by omega) ha;refine ⟨k + 1,r,?_,h2⟩;rw [fQ.l1,if_pos (by omega),if_pos (by omega),if_pos (by omega),ht,hwn,hw,Option.bind_some,if_pos rfl,if_pos hin.1,if_pos (by rw [h.1];exact hin.2),if_pos he,if_pos hlt,w64 (by omega)];exact h1
    · have hw2 : wrap64 (((rd_L1 X t).length : Int) - 1) = ((rd_L1 X t).length : Int) - 1:=by unfold wrap64;omega
      by_cases hb2 : rd (rd_L1 X t) (((rd_L1 X t).length : Int) - 1) = (b : Int)
      · have hmem : (b : Int) ∈ rd_L1 X t:=by
         rw [← hb2];have e : (((rd_L1 X t).length : Int) - 1).toNat < (rd_L1 X t).length:=by omega
         unfold rd;rw [List.getD_eq_getElem?_getD,List.getElem?_eq_getElem e];exact List.getElem_mem e
        obtain ⟨k,r,h1,h2⟩:=ihj (i + 1) X (by omega) (h.skip hi' (.inr (by rw [ht];exact hmem)));refine ⟨k + 1,r,?_,h2⟩;rw [fQ.l1,if_pos (by omega),if_pos (by omega),if_pos (by omega),ht,hwn,hw,Option.bind_some,if_pos rfl,if_pos hin.1,if_pos (by rw [h.1];exact hin.2),if_neg he,hw2,if_pos (by omega),if_pos (by omega),if_pos hb2,w64 (by omega)];exact h1
      · have ha:=h.add hi' (by rw [ht];exact hin.1) (by rw [ht];exact hin.2);rw [ht] at ha;obtain ⟨k,r,h1,h2⟩:=ihj (i + 1) _ (by omega) ha;refine ⟨k + 1,r,?_,h2⟩;rw [fQ.l1,if_pos (by omega),if_pos (by omega),if_pos (by omega),ht,hwn,hw,Option.bind_some,if_pos rfl,if_pos hin.1,if_pos (by rw [h.1];exact hin.2),if_neg he,hw2,if_pos (by omega),if_pos (by omega),if_neg hb2,if_pos hlt,w64 (by omega)];exact h1
  · have hw : ir_within.f t 0 ((l.length : Int) - 1) = some false:=by
     rw [ir_within.f];by_cases c : t ≥ 0
     · rw [if_pos c];congr 1;exact decide_eq_false (by omega)
     · rw [if_neg c]
    obtain ⟨k,r,h1,h2⟩:=ihj (i + 1) X (by omega) (h.skip hi' (.inl (by rw [ht];exact hin)));refine ⟨k + 1,r,?_,h2⟩;rw [fQ.l1,if_pos (by omega),if_pos (by omega),if_pos (by omega),ht,hwn,hw,Option.bind_some,if_neg (by simp),w64 (by omega)];exact h1
theorem preds_l0 (hs : Small l) : ∀ (j b : Nat) (X : List (List Int)),b + j = l.length → PInv l b 0 X → ∃ k r,fQ.l0 k X l l.length b = some r ∧ PSpec l r:=by
 intro j;induction j with
 | zero =>
  intro b X hb h;refine ⟨1,X,?_,h.1,fun t t0 t1 => ?_⟩
  · rw [fQ.l0,if_neg (by omega)]
  · have ht:=h.2 t t0 t1;have hl:=hs.1;refine ⟨?_,fun p => ?_⟩
    · have : b * 1048576 ≤ 1048576 * 1048576:=Nat.mul_le_mul_right _ (by omega);omega
    · rw [ht.2 p];have e : (b : Int) = (l.length : Int):=by omega
      simp [e]
 | succ j ihj =>
  intro b X hb h;obtain ⟨k,r,h1,h2⟩:=preds_l1 hs (b:=b) (by omega) (fun X' h' => ihj (b + 1) X' (by omega) h') (succs l b).length 0 X (by omega) h;refine ⟨k + 1,r,?_,h2⟩;rw [fQ.l0,if_pos (by omega),if_pos (by omega),if_pos (by omega)];exact h1
theorem preds_all {a0 : ByteArray} {a1 a2 a3 : Int} (hs : Small l) : ∃ k r,fQ.f k a0 a1 a2 a3 l = some r ∧ PSpec l r:=by
 have h0 : PInv l 0 0 (List.replicate l.length []):=by
  refine ⟨by simp,fun t t0 t1 => ?_⟩;have e : rd_L1 (List.replicate l.length ([] : List Int)) t = []:=by
   simp only [rd_L1,List.getD_eq_getElem?_getD,List.getElem?_replicate]
   split <;> rfl
  rw [e];refine ⟨by simp,fun p => ⟨fun h => (List.not_mem_nil h).elim,?_⟩⟩;rintro (⟨h1,h2,_⟩ | ⟨_,h2⟩)
  · omega
  · simp at h2
 obtain ⟨k,r,h1,h2⟩:=preds_l0 hs l.length 0 _ (by omega) h0;refine ⟨k,r,?_,h2⟩;have hl:=hs.1;rw [fQ.f,if_pos (by omega),if_pos (by omega),Int.toNat_natCast];exact h1
end
end Go.Proofs.Ytbklmnieakefnaa.Q
namespace Go.Proofs.Ytbklmnieakefnaa.Q
open Go.RowKit Go.Proofs.YtbklmnieakefnaaW.PrintWords
set_option linter.unusedVariables false
section
variable {Rm : Int → Prop} {E Dm : Int → Int → Prop} {place dom : List Int} {L : Nat}
structure Lay (Rm : Int → Prop) (place : List Int) (L : Nat) : Prop where
 low : ∀ x,Rm x → x < (place.length : Int)
 lim : ∀ x,Rm x → rd place x < (L : Int)
 is : ∀ x,0 ≤ x → x < (place.length : Int) → 0 ≤ rd place x → Rm x
theorem meet_ok (he : Env Rm (rd place) E) (hl : Lay Rm place L) (hw : WF Rm (rd place) (rd dom)) : ∀ (k : Nat) (a b : Int),Rm a → 0 ≤ rd dom a → Rm b → 0 ≤ rd dom b → ((L : Int) - rd place a).toNat + ((L : Int) - rd place b).toNat < k →
 ∃ m,doms_meet place dom k a b = some m ∧ Rm m ∧ 0 ≤ rd dom m ∧ Up (rd dom) a m ∧ Up (rd dom) b m ∧ ∀ y,Up (rd dom) a y → Up (rd dom) b y → Up (rd dom) m y:=by
 intro k;induction k with
 | zero => intro a b _ _ _ _ h;omega
 | succ k ih =>
  intro a b ha hta hb htb hk;have ra : 0 ≤ a ∧ a < (place.length : Int) ∧ 0 ≤ b ∧ b < (place.length : Int):=⟨he.nat a ha,hl.low a ha,he.nat b hb,hl.low b hb⟩
  rw [doms_meet,if_pos ra];by_cases e : a = b
  · subst e;rw [if_pos rfl];exact ⟨a,rfl,ha,hta,.refl _,.refl _,fun y h _ => h⟩
  · rw [if_neg e];by_cases c : rd place a < rd place b
    · rw [if_pos c];have a0 : a ≠ 0:=fun e => by have:=he.top b hb;subst e;omega
      obtain ⟨w1,w2,w3⟩:=hw.up a ha a0 hta;have l1:=hl.lim _ w1;have l2:=hl.lim _ ha;obtain ⟨m,h1,h2,h3,h4,h5,h6⟩:=ih (rd dom a) b w1 w3 hb htb (by omega);refine ⟨m,h1,h2,h3,.step a0 h4,h5,fun y hy1 hy2 => h6 y ?_ hy2⟩;exact (hy1.next (fun e => by have:=(hy2.facts hw hb htb).2.2.1;subst e;omega)).2
    · rw [if_neg c];by_cases c2 : rd place b < rd place a
      · rw [if_pos c2];have b0 : b ≠ 0:=fun e => by have:=he.top a ha;subst e;omega
        obtain ⟨w1,w2,w3⟩:=hw.up b hb b0 htb;have l1:=hl.lim _ w1;have l2:=hl.lim _ hb;obtain ⟨m,h1,h2,h3,h4,h5,h6⟩:=ih a (rd dom b) ha hta w1 w3 (by omega);refine ⟨m,h1,h2,h3,h4,.step b0 h5,fun y hy1 hy2 => h6 y hy1 ?_⟩;exact (hy2.next (fun e => by have:=(hy1.facts hw ha hta).2.2.1;subst e;omega)).2
      · exact absurd (he.inj a b ha hb (by omega)) e
theorem best_ok (he : Env Rm (rd place) E) (hl : Lay Rm place L) (hw : WF Rm (rd place) (rd dom)) {kf : Nat} (hk : 2 * L + 1 ≤ kf) : ∀ (ps : List Int) (bst : Int),(∀ p ∈ ps,0 ≤ p ∧ p < (place.length : Int)) → (0 ≤ bst → Rm bst ∧ 0 ≤ rd dom bst) →
 ∃ r,doms_best place dom kf ps bst = some r ∧ ((bst < 0 ∧ (∀ p ∈ ps,¬ (Rm p ∧ 0 ≤ rd dom p)) ∧ r = bst) ∨
  (Rm r ∧ 0 ≤ rd dom r ∧ (0 ≤ bst → Up (rd dom) bst r) ∧ (∀ p ∈ ps,Rm p → 0 ≤ rd dom p → Up (rd dom) p r) ∧ ∀ y,(0 ≤ bst → Up (rd dom) bst y) → (∀ p ∈ ps,Rm p → 0 ≤ rd dom p → Up (rd dom) p y) → Up (rd dom) r y)):=by
 intro ps;induction ps with
 | nil =>
  intro bst _ hb;refine ⟨bst,rfl,?_⟩;by_cases c : bst < 0
  · exact .inl ⟨c,fun p hp => (List.not_mem_nil hp).elim,rfl⟩
  · have:=hb (by omega);exact .inr ⟨this.1,this.2,fun _ => .refl _,fun p hp => (List.not_mem_nil hp).elim,fun y h _ => h (by omega)⟩
 | cons p ps ih =>
  intro bst hps hb;have hp:=hps p List.mem_cons_self;have hps' := fun q hq => hps q (List.mem_cons_of_mem p hq)
  rw [doms_best,if_pos hp];by_cases c : rd dom p < 0 ∨ rd place p < 0
  · rw [if_pos c];have hno : ¬ (Rm p ∧ 0 ≤ rd dom p):=fun h => by
     have:=he.pos p h.1;rcases c with c|c <;> omega
    obtain ⟨r,h1,h2⟩:=ih bst hps' hb;refine ⟨r,h1,?_⟩;rcases h2 with ⟨h2,h3,h4⟩ | ⟨h2,h3,h4,h5,h6⟩
    · refine .inl ⟨h2,fun q hq => ?_,h4⟩;rcases List.mem_cons.1 hq with rfl|hq
      · exact hno
      · exact h3 q hq
    · refine .inr ⟨h2,h3,h4,fun q hq hr ht => ?_,fun y hy1 hy2 => h6 y hy1 (fun q hq => hy2 q (List.mem_cons_of_mem p hq))⟩;rcases List.mem_cons.1 hq with rfl|hq
      · exact absurd ⟨hr,ht⟩ hno
      · exact h5 q hq hr ht
  · rw [if_neg c];have hrp : Rm p:=hl.is p hp.1 hp.2 (by omega);have htp : 0 ≤ rd dom p:=by omega
    by_cases cb : bst < 0
    · rw [if_pos cb];obtain ⟨r,h1,h2⟩:=ih p hps' (fun _ => ⟨hrp,htp⟩);refine ⟨r,h1,?_⟩;rcases h2 with ⟨h2,_,_⟩ | ⟨h2,h3,h4,h5,h6⟩
      · omega
      · refine .inr ⟨h2,h3,fun h => by omega,fun q hq hr ht => ?_,fun y hy1 hy2 => h6 y (fun _ => hy2 p List.mem_cons_self hrp htp) (fun q hq => hy2 q (List.mem_cons_of_mem p hq))⟩;rcases List.mem_cons.1 hq with rfl|hq
        · exact h4 hp.1
        · exact h5 q hq hr ht
    · rw [if_neg cb];obtain ⟨hbr,hbt⟩:=hb (by omega);have l1:=he.pos _ hbr;have l2:=he.pos _ hrp;obtain ⟨m,m1,m2,m3,m4,m5,m6⟩:=meet_ok he hl hw kf bst p hbr hbt hrp htp (by omega);rw [m1,Option.bind_some];obtain ⟨r,h1,h2⟩:=ih m hps' (fun _ => ⟨m2,m3⟩);refine ⟨r,h1,?_⟩;have hm0:=he.nat m m2;rcases h2 with ⟨h2,_,_⟩ | ⟨h2,h3,h4,h5,h6⟩
      · omega
      · refine .inr ⟨h2,h3,fun _ => m4.trans (h4 hm0),fun q hq hr ht => ?_,fun y hy1 hy2 => h6 y (fun _ => m6 y (hy1 (by omega)) (hy2 p List.mem_cons_self hrp htp)) (fun q hq => hy2 q (List.mem_cons_of_mem p hq))⟩;rcases List.mem_cons.1 hq with rfl|hq
        · exact m5.trans (h4 hm0)
        · exact h5 q hq hr ht
theorem best_all (he : Env Rm (rd place) E) (hl : Lay Rm place L) (hw : WF Rm (rd place) (rd dom)) {kf : Nat} (hk : 2 * L + 1 ≤ kf) {b : Int} {row : List Int} (hrow : ∀ p ∈ row,0 ≤ p ∧ p < (place.length : Int)) (hE : ∀ p,Rm p → (p ∈ row ↔ E p b)) :
 ∃ r,doms_best place dom kf row (-1) = some r ∧ (((∀ p,E p b → ¬ 0 ≤ rd dom p) ∧ r = -1) ∨ IsBest Rm E (rd dom) b r):=by
 obtain ⟨r,h1,h2⟩:=best_ok he hl hw hk row (-1) hrow (fun h => by omega);refine ⟨r,h1,?_⟩;rcases h2 with ⟨_,h3,h4⟩ | ⟨h2,h3,_,h5,h6⟩
 · exact .inl ⟨fun p hp ht => h3 p ((hE p (he.both p b hp).1).2 hp) ⟨(he.both p b hp).1,ht⟩,h4⟩
 · exact .inr ⟨h2,h3,fun p hp ht => h5 p ((hE p (he.both p b hp).1).2 hp) (he.both p b hp).1 ht,fun y hy => h6 y (fun h => by omega) (fun p hp hr ht => hy p ((hE p hr).1 hp) ht)⟩
end
end Go.Proofs.Ytbklmnieakefnaa.Q
namespace Go.Proofs.Ytbklmnieakefnaa.Q
open Go.RowKit Go.Proofs.YtbklmnieakefnaaW.PrintWords
set_option linter.unusedVariables false
theorem rd_chg {D : List Int} {b v : Int} (h0 : 0 < b) (hl : b < (D.length : Int)) : rd (D.set b.toNat v) = chg (rd D) b v:=by
 funext x
 unfold rd chg;rw [List.getD_eq_getElem?_getD,List.getElem?_set];by_cases h : x = b
 · subst h;rw [if_pos rfl,if_pos (show x.toNat < D.length by omega),if_pos rfl];rfl
 · have : b.toNat ≠ x.toNat:=by omega
   rw [if_neg this,if_neg h];rfl
section
variable {Rm : Int → Prop} {E Dm : Int → Int → Prop} {place : List Int} {L : Nat} {preds : List (List Int)} {ord : List Int}
structure Rank (Rm : Int → Prop) (pl : Int → Int) (ord : List Int) : Prop where
 mem : ∀ x,x ∈ ord ↔ Rm x
 pw : ord.Pairwise (fun x y => pl y < pl x)
theorem Rank.pre {pl : Int → Int} (h : Rank Rm pl ord) {pre bs : List Int} {b : Int} (e : ord = pre ++ b :: bs) : Rm b ∧ (∀ x ∈ pre,Rm x ∧ pl b < pl x) ∧ ∀ x,Rm x → pl b < pl x → x ∈ pre:=by
 subst e;have hp:=List.pairwise_append.1 h.pw;have hc:=List.pairwise_cons.1 hp.2.1;refine ⟨(h.mem b).1 (by simp),fun x hx => ⟨(h.mem x).1 (List.mem_append_left _ hx),hp.2.2 x hx b (by simp)⟩,fun x hx hlt => ?_⟩;rcases List.mem_append.1 ((h.mem x).2 hx) with h1|h1
 · exact h1
 · rcases List.mem_cons.1 h1 with rfl|h1
   · omega
   · have:=hc.1 x h1;omega
structure PrE (Rm : Int → Prop) (E : Int → Int → Prop) (preds : List (List Int)) (n : Nat) : Prop where
 len : ∀ b,Rm b → (rd_L1 preds b).length ≤ 17592186044416
 rng : ∀ b,Rm b → ∀ p ∈ rd_L1 preds b,0 ≤ p ∧ p < (n : Int)
 is : ∀ b,Rm b → ∀ p,Rm p → (p ∈ rd_L1 preds b ↔ E p b)
def Mn (pl : Int → Int) (E : Int → Int → Prop) (D : Int → Int) (b : Int) : Prop:=b ≠ 0 → ∀ p,E p b → pl b < pl p → Up D p (D b)
theorem Mn.chg (he : Env Rm (rd place) E) {D : Int → Int} (hw : WF Rm (rd place) D) {b d x : Int} (hx : Rm x) (hxb : rd place b < rd place x) (ht : ∀ p,E p x → rd place x < rd place p → 0 ≤ D p) (h : Mn (rd place) E D x) : Mn (rd place) E (Q.chg D b d) x:=by
 intro h0 p hp hlt;have e : Q.chg D b d x = D x:=chg_ne (fun e => by subst e;omega);rw [e];exact (h h0 p hp hlt).above hw (he.both _ _ hp).1 (ht p hp hlt) (by omega)
theorem Mn.best {pl : Int → Int} (he : Env Rm pl E) {D : Int → Int} (hw : WF Rm pl D) {b d : Int} (hB : IsBest Rm E D b d) (ht : ∀ p,E p b → pl b < pl p → 0 ≤ D p) : Mn pl E (Q.chg D b d) b:=by
 intro h0 p hp hlt;rw [chg_at];exact (hB.c p hp (ht p hp hlt)).above hw (he.both _ _ hp).1 (ht p hp hlt) hlt
structure S1 (Rm : Int → Prop) (place : List Int) (E Dm : Int → Int → Prop) (pre : List Int) (dom : List Int) : Prop where
 len : dom.length = place.length
 inv : Inv Rm (rd place) E Dm (rd dom)
 told : ∀ x,Rm x → (0 ≤ rd dom x ↔ x = 0 ∨ x ∈ pre)
 out : ∀ x,0 ≤ x → x < (place.length : Int) → x ≠ 0 → x ∉ pre → rd dom x = -1
 mn : ∀ b ∈ pre,Mn (rd place) E (rd dom) b
theorem pass_one (he : Env Rm (rd place) E) (hl : Lay Rm place L) (hr : Rank Rm (rd place) ord) (hp : PrE Rm E preds place.length) (h1 : ∀ y b p,Dm y b → y ≠ b → E p b → Dm y p) {kf : Nat} (hk : 2 * L + 1 ≤ kf) :
 ∀ (bs pre : List Int) (dom : List Int) (t : Bool),ord = pre ++ bs → S1 Rm place E Dm pre dom → ∃ dom' t',doms_pass place preds kf bs dom t = some (dom',t') ∧ S1 Rm place E Dm ord dom' ∧ (t' = false → t = false ∧ ∀ b ∈ bs,b = 0):=by
 intro bs;induction bs with
 | nil =>
  intro pre dom t e h;rw [List.append_nil] at e;subst e;exact ⟨dom,t,rfl,h,fun h => ⟨h,fun b hb => (List.not_mem_nil hb).elim⟩⟩
 | cons b bs ih =>
  intro pre dom t e h;obtain ⟨hb,hpre,hin⟩:=hr.pre e;have hb0:=he.nat b hb;have hbl:=hl.low b hb;have e2 : ord = (pre ++ [b]) ++ bs:=by rw [e];simp
  rw [doms_pass,doms_row];by_cases c : b = 0
  · rw [if_pos c,Option.bind_some];obtain ⟨dom',t',q1,q2,q3⟩:=ih (pre ++ [b]) dom t e2 (by
     refine ⟨h.len,h.inv,fun x hx => ?_,fun x h0 hx hx0 hn => h.out x h0 hx hx0 (fun hm => hn (List.mem_append_left _ hm)),fun x hx => ?_⟩
     · rw [h.told x hx,List.mem_append,List.mem_singleton];constructor
       · rintro (h|h)
         · exact .inl h
         · exact .inr (.inl h)
       · rintro (h|h|h)
         · exact .inl h
         · exact .inr h
         · exact .inl (h.trans c)
     · rcases List.mem_append.1 hx with hx|hx
       · exact h.mn x hx
       · intro h0;exact absurd ((List.mem_singleton.1 hx).trans c) h0)
    refine ⟨dom',t',q1,q2,fun ht => ⟨(q3 ht).1,fun x hx => ?_⟩⟩;rcases List.mem_cons.1 hx with hx|hx
    · exact hx.trans c
    · exact (q3 ht).2 x hx
  · rw [if_neg c,if_pos ⟨hb0,hbl,hp.len b hb⟩];have hnp : b ∉ pre:=fun hm => by have:=(hpre b hm).2;omega
    have hub : rd dom b = -1:=h.out b hb0 hbl c hnp;obtain ⟨p0,hp0,hlt0⟩:=he.par b hb c;have tld : ∀ p,E p b → rd place b < rd place p → 0 ≤ rd dom p:=fun p hp hlt => (h.told p (he.both _ _ hp).1).2 (.inr (hin p (he.both _ _ hp).1 hlt))
    have ht0:=tld p0 hp0 hlt0;obtain ⟨r,g1,g2⟩:=best_all he hl h.inv.w hk (hp.rng b hb) (hp.is b hb);rw [g1,Option.bind_some];rcases g2 with ⟨g2,_⟩|hB
    · exact absurd ht0 (g2 p0 hp0)
    · have hr0:=he.nat r hB.r;rw [if_neg (by omega),Option.bind_some];have hc:=rd_chg (D:=dom) (v:=r) (show 0 < b by omega) (by rw [h.len];exact hbl);obtain ⟨i1,i2,i3⟩:=h.inv.first he h1 hb c (by omega) hp0 hlt0 ht0 hB;obtain ⟨dom',t',q1,q2,q3⟩:=ih (pre ++ [b]) (dom.set b.toNat r) true e2 (by
       refine ⟨by rw [List.length_set];exact h.len,by rw [hc];exact i1,fun x hx => ?_,fun x x0 hx hx0 hn => ?_,fun x hx => ?_⟩
       · rw [hc,List.mem_append,List.mem_singleton];by_cases ex : x = b
         · subst ex;rw [chg_at];exact ⟨fun _ => .inr (.inr rfl),fun _ => i3⟩
         · rw [chg_ne ex,h.told x hx];exact or_congr Iff.rfl ⟨.inl,fun h => h.resolve_right ex⟩
       · rw [hc];have ex : x ≠ b:=fun ex => hn (by simp [ex])
         rw [chg_ne ex];exact h.out x x0 hx hx0 (fun hm => hn (List.mem_append_left _ hm))
       · rw [hc];rcases List.mem_append.1 hx with hx|hx
         · have hpx:=hpre x hx;refine (h.mn x hx).chg he h.inv.w hpx.1 hpx.2 (fun p hp hlt => (h.told p (he.both _ _ hp).1).2 (.inr (hin p (he.both _ _ hp).1 (by omega))))
         · rw [List.mem_singleton.1 hx];exact Mn.best he h.inv.w hB tld)
      exact ⟨dom',t',q1,q2,fun ht => absurd (q3 ht).1 (by simp)⟩
def gap (place ord dom : List Int) (L : Nat) : Nat:=(ord.map (fun x => ((L : Int) - rd place (rd dom x)).toNat)).sum
theorem gap_le {f g : Int → Nat} : ∀ (xs : List Int),(∀ x ∈ xs,f x ≤ g x) → (xs.map f).sum ≤ (xs.map g).sum
 | [],_ => Nat.le_refl _
 | x :: xs,h => by
  simp only [List.map_cons,List.sum_cons];exact Nat.add_le_add (h x (by simp)) (gap_le xs (fun y hy => h y (List.mem_cons_of_mem _ hy)))
theorem gap_lt {f g : Int → Nat} : ∀ (xs : List Int),(∀ x ∈ xs,f x ≤ g x) → (∃ x ∈ xs,f x < g x) → (xs.map f).sum < (xs.map g).sum
 | [],_,h => by obtain ⟨x,hx,_⟩:=h;simp at hx
 | x :: xs,h,⟨y,hy,hlt⟩ => by
  simp only [List.map_cons,List.sum_cons];have h1:=h x (by simp);have h2:=fun z hz => h z (List.mem_cons_of_mem x hz)
  rcases List.mem_cons.1 hy with rfl|hy
  · have:=gap_le xs h2;omega
  · have:=gap_lt xs h2 ⟨y,hy,hlt⟩;omega
structure S2 (Rm : Int → Prop) (place : List Int) (E Dm : Int → Int → Prop) (old : Int → Int) (pre bs : List Int) (dom : List Int) : Prop where
 len : dom.length = place.length
 inv : Inv Rm (rd place) E Dm (rd dom)
 told : ∀ x,Rm x → 0 ≤ rd dom x
 out : ∀ x,0 ≤ x → x < (place.length : Int) → ¬ Rm x → x ≠ 0 → rd dom x = -1
 mn : ∀ b ∈ pre,Mn (rd place) E (rd dom) b
 same : ∀ b ∈ bs,rd dom b = old b
 j : ∀ x ∈ pre,x ≠ 0 → Up (rd dom) (old x) (rd dom x)
theorem K_up (he : Env Rm (rd place) E) {old D : Int → Int} (hwo : WF Rm (rd place) old) (hto : ∀ x,Rm x → 0 ≤ old x) {b : Int} (hj : ∀ x,Rm x → rd place b < rd place x → x ≠ 0 → Up D (old x) (D x)) {p d : Int} (h : Up old p d) :
 Rm p → rd place b < rd place p → ∀ y,Up D p y → rd place d ≤ rd place y → Up D d y:=by
 induction h with
 | refl => exact fun _ _ y h _ => h
 | @step p d h0 r ih =>
  intro hp hlt y hy hle;obtain ⟨w1,w2,w3⟩:=hwo.up p hp h0 (hto p hp);have f:=r.facts hwo w1 w3;have hne : p ≠ y:=fun e => by subst e;have:=f.2.2.1;omega
  have h2:=(hj p hp hlt h0).trans (hy.next hne).2;exact ih w1 (by omega) y h2 hle
theorem pass_more (he : Env Rm (rd place) E) (hl : Lay Rm place L) (hr : Rank Rm (rd place) ord) (hp : PrE Rm E preds place.length) (h1 : ∀ y b p,Dm y b → y ≠ b → E p b → Dm y p) (h2 : ∀ y x b,Dm y x → Inc (rd place) E b x → rd place b < rd place y → Dm y b)
 {old : Int → Int} (hwo : WF Rm (rd place) old) (hto : ∀ x,Rm x → 0 ≤ old x) (hmo : ∀ x,Rm x → Mn (rd place) E old x) {kf : Nat} (hk : 2 * L + 1 ≤ kf) :
 ∀ (bs pre : List Int) (dom : List Int) (t : Bool),ord = pre ++ bs → S2 Rm place E Dm old pre bs dom → ∃ dom' t',doms_pass place preds kf bs dom t = some (dom',t') ∧ S2 Rm place E Dm old ord [] dom' ∧
  gap place ord dom' L ≤ gap place ord dom L ∧ (t' = true → t = true ∨ gap place ord dom' L < gap place ord dom L) ∧ (t' = false → t = false ∧ dom' = dom ∧ ∀ b ∈ bs,b ≠ 0 → IsBest Rm E (rd dom) b (rd dom b)):=by
 intro bs;induction bs with
 | nil =>
  intro pre dom t e h;rw [List.append_nil] at e;subst e;exact ⟨dom,t,rfl,h,Nat.le_refl _,fun h => .inl h,fun h => ⟨h,rfl,fun b hb => (List.not_mem_nil hb).elim⟩⟩
 | cons b bs ih =>
  intro pre dom t e h;obtain ⟨hb,hpre,hin⟩:=hr.pre e;have hb0:=he.nat b hb;have hbl:=hl.low b hb;have e2 : ord = (pre ++ [b]) ++ bs:=by rw [e];simp
  rw [doms_pass,doms_row];by_cases c : b = 0
  · rw [if_pos c,Option.bind_some];obtain ⟨dom',t',g1,g2,g3,g4,g5⟩:=ih (pre ++ [b]) dom t e2 ⟨h.len,h.inv,h.told,h.out,fun x hx => by
     rcases List.mem_append.1 hx with hx|hx
     · exact h.mn x hx
     · exact fun h0 => absurd ((List.mem_singleton.1 hx).trans c) h0,fun x hx => h.same x (List.mem_cons_of_mem _ hx),fun x hx h0 => by
     rcases List.mem_append.1 hx with hx|hx
     · exact h.j x hx h0
     · exact absurd ((List.mem_singleton.1 hx).trans c) h0⟩
    refine ⟨dom',t',g1,g2,g3,g4,fun ht => ?_⟩;obtain ⟨a1,a2,a3⟩:=g5 ht;refine ⟨a1,a2,fun x hx h0 => ?_⟩;rcases List.mem_cons.1 hx with hx|hx
    · exact absurd (hx.trans c) h0
    · exact a3 x hx h0
  · rw [if_neg c,if_pos ⟨hb0,hbl,hp.len b hb⟩];obtain ⟨p0,hp0,hlt0⟩:=he.par b hb c;have hrp0:=(he.both _ _ hp0).1;have tld : ∀ p,E p b → rd place b < rd place p → 0 ≤ rd dom p:=fun p hp hlt => h.told p (he.both _ _ hp).1
    obtain ⟨r,g1,g2⟩:=best_all he hl h.inv.w hk (hp.rng b hb) (hp.is b hb);rw [g1,Option.bind_some];rcases g2 with ⟨g2,_⟩|hB
    · exact absurd (h.told p0 hrp0) (g2 p0 hp0)
    · have hold : rd dom b = old b:=h.same b (by simp);have hup : Up (rd dom) (rd dom b) r:=by
       rw [hold];refine K_up he hwo hto (b:=b) (fun x hx hlt h0 => h.j x (hin x hx hlt) h0) (hmo b hb c p0 hp0 hlt0) hrp0 hlt0 r (hB.c p0 hp0 (h.told p0 hrp0)) ?_;rw [← hold];exact h.inv.lim b hb c (h.told b hb) r hB.c
      by_cases ce : rd dom b = r
      · rw [if_pos ce,Option.bind_some];obtain ⟨dom',t',g1,g2,g3,g4,g5⟩:=ih (pre ++ [b]) dom t e2 ⟨h.len,h.inv,h.told,h.out,fun x hx => by
         rcases List.mem_append.1 hx with hx|hx
         · exact h.mn x hx
         · rw [List.mem_singleton.1 hx];intro _ p hp hlt;rw [ce];exact hB.c p hp (h.told p (he.both _ _ hp).1),fun x hx => h.same x (List.mem_cons_of_mem _ hx),fun x hx h0 => by
         rcases List.mem_append.1 hx with hx|hx
         · exact h.j x hx h0
         · rw [List.mem_singleton.1 hx,← hold];exact .refl _⟩
        refine ⟨dom',t',g1,g2,g3,g4,fun ht => ?_⟩;obtain ⟨a1,a2,a3⟩:=g5 ht;refine ⟨a1,a2,fun x hx h0 => ?_⟩;rcases List.mem_cons.1 hx with hx|hx
        · rw [hx,ce];exact hB
        · exact a3 x hx h0
      · rw [if_neg ce,Option.bind_some];have hc:=rd_chg (D:=dom) (v:=r) (show 0 < b by omega) (by rw [h.len];exact hbl);obtain ⟨i1,i2,i3,i4⟩:=h.inv.later he h1 h2 h.told hb c hB hup;have hnp : b ∉ pre:=fun hm => by have:=(hpre b hm).2;omega
        have hnb : b ∉ bs:=fun hm => by
         have hq:=hr.pw;rw [e] at hq;have:=(List.pairwise_cons.1 (List.pairwise_append.1 hq).2.1).1 b hm;omega
        have hob:=hwo.up b hb c (hto b hb);obtain ⟨w1,w2,w3⟩:=h.inv.w.up b hb c (h.told b hb);have mlt : gap place ord (dom.set b.toNat r) L < gap place ord dom L:=by
         unfold gap;have hf:=hup.facts h.inv.w w1 w3;have hlt : rd place (rd dom b) < rd place r:=by
          have:=hf.2.2.1;by_cases e3 : rd place (rd dom b) = rd place r
          · exact absurd (hf.2.2.2 e3) ce
          · omega
         have l1:=hl.lim r hB.r;refine gap_lt ord (fun x hx => ?_) ⟨b,by rw [e];simp,?_⟩
         · show ((L : Int) - rd place (rd (dom.set b.toNat r) x)).toNat ≤ _
           rw [hc];by_cases ex : x = b
           · rw [ex,chg_at];omega
           · rw [chg_ne ex];exact Nat.le_refl _
         · show ((L : Int) - rd place (rd (dom.set b.toNat r) b)).toNat < _
           rw [hc,chg_at];omega
        obtain ⟨dom',t',g1,g2,g3,g4,g5⟩:=ih (pre ++ [b]) (dom.set b.toNat r) true e2 ⟨by rw [List.length_set];exact h.len,by rw [hc];exact i1,fun x hx => by rw [hc];exact chg_told i3 (h.told x hx),fun x x0 hx hn hx0 => by
         rw [hc,chg_ne (show x ≠ b from fun e => hn (by rw [e];exact hb))];exact h.out x x0 hx hn hx0,fun x hx => by
         rw [hc];rcases List.mem_append.1 hx with hx|hx
         · exact (h.mn x hx).chg he h.inv.w (hpre x hx).1 (hpre x hx).2 (fun p hp _ => h.told p (he.both _ _ hp).1)
         · rw [List.mem_singleton.1 hx];exact Mn.best he h.inv.w hB tld,fun x hx => by
         rw [hc,chg_ne (show x ≠ b from fun e => hnb (by rw [← e];exact hx))];exact h.same x (List.mem_cons_of_mem _ hx),fun x hx h0 => by
         rw [hc];rcases List.mem_append.1 hx with hx|hx
         · have hpx:=hpre x hx;have ho:=hwo.up x hpx.1 h0 (hto x hpx.1);rw [chg_ne (show x ≠ b from fun e => hnp (by rw [← e];exact hx))];exact (h.j x hx h0).above h.inv.w ho.1 (h.told _ ho.1) (by omega)
         · rw [List.mem_singleton.1 hx,chg_at,← hold];exact hup.above h.inv.w w1 w3 w2⟩
        refine ⟨dom',t',g1,g2,by omega,fun _ => .inr (by omega),fun ht => ?_⟩;exact absurd (g5 ht).1 (by simp)
structure Fix (Rm : Int → Prop) (place : List Int) (E Dm : Int → Int → Prop) (dom : List Int) : Prop where
 len : dom.length = place.length
 inv : Inv Rm (rd place) E Dm (rd dom)
 told : ∀ x,Rm x → 0 ≤ rd dom x
 out : ∀ x,0 ≤ x → x < (place.length : Int) → ¬ Rm x → rd dom x = -1
 best : ∀ b,Rm b → b ≠ 0 → IsBest Rm E (rd dom) b (rd dom b)
theorem turn_more (he : Env Rm (rd place) E) (hl : Lay Rm place L) (hr : Rank Rm (rd place) ord) (hp : PrE Rm E preds place.length) (h1 : ∀ y b p,Dm y b → y ≠ b → E p b → Dm y p) (h2 : ∀ y x b,Dm y x → Inc (rd place) E b x → rd place b < rd place y → Dm y b)
 {kf : Nat} (hk : 2 * L + 1 ≤ kf) : ∀ (k : Nat) (dom : List Int),gap place ord dom L < k → S2 Rm place E Dm (rd dom) [] ord dom → (∀ x,Rm x → Mn (rd place) E (rd dom) x) → ∃ d,doms_turn place preds kf ord k dom = some d ∧ Fix Rm place E Dm d:=by
 intro k;induction k with
 | zero => intro dom h;omega
 | succ k ih =>
  intro dom hm h hmn;obtain ⟨dom',t',g1,g2,g3,g4,g5⟩:=pass_more he hl hr hp h1 h2 h.inv.w h.told hmn hk ord [] dom false rfl h;rw [doms_turn,g1,Option.bind_some];cases t' with
  | true =>
   rw [if_pos rfl];have hlt:=(g4 rfl).resolve_left (by simp);exact ih dom' (by omega) ⟨g2.len,g2.inv,g2.told,g2.out,fun b hb => (List.not_mem_nil hb).elim,fun _ _ => rfl,fun b hb => (List.not_mem_nil hb).elim⟩ (fun x hx => g2.mn x ((hr.mem x).2 hx))
  | false =>
   rw [if_neg (by simp)];obtain ⟨_,e,hB⟩:=g5 rfl;subst e;refine ⟨dom',rfl,h.len,h.inv,h.told,fun x x0 hx hn => h.out x x0 hx hn (fun e => hn (e ▸ he.r0)),fun b hb h0 => hB b ((hr.mem b).2 hb) h0⟩
theorem turn_all (he : Env Rm (rd place) E) (hl : Lay Rm place L) (hr : Rank Rm (rd place) ord) (hp : PrE Rm E preds place.length) (h1 : ∀ y b p,Dm y b → y ≠ b → E p b → Dm y p) (h2 : ∀ y x b,Dm y x → Inc (rd place) E b x → rd place b < rd place y → Dm y b)
 (hd0 : ∀ y,Dm y 0 → y = 0) {kf : Nat} (hk : 2 * L + 1 ≤ kf) : ∃ k d,doms_turn place preds kf ord k ((List.replicate place.length (-1)).set 0 0) = some d ∧ Fix Rm place E Dm d:=by
 have hn : 0 < place.length:=by have:=hl.low 0 he.r0;omega
 have r0 : rd ((List.replicate place.length (-1 : Int)).set 0 0) 0 = 0:=by simp [rd,List.getD_eq_getElem?_getD,hn]
 have rx : ∀ x : Int,0 < x → x < (place.length : Int) → rd ((List.replicate place.length (-1 : Int)).set 0 0) x = -1:=fun x h0 h1 => by
  have : (0 : Nat) ≠ x.toNat:=by omega
  have h3 : x.toNat < place.length:=by omega
  simp [rd,List.getD_eq_getElem?_getD,this,h3]
 have tz : ∀ x,Rm x → (0 ≤ rd ((List.replicate place.length (-1 : Int)).set 0 0) x) → x = 0:=fun x hx h => by
  by_cases c : x = 0
  · exact c
  · have a1:=he.nat x hx;have a2:=rx x (by omega) (hl.low x hx);omega
 have u0 : ∀ y,Up (rd ((List.replicate place.length (-1 : Int)).set 0 0)) 0 y → y = 0:=fun y h => by
  cases h with
  | refl => rfl
  | step h _ => exact absurd rfl h
 have i0 : Inv Rm (rd place) E Dm (rd ((List.replicate place.length (-1 : Int)).set 0 0)):=by
  refine ⟨⟨r0,fun x hx h0 ht => absurd (tz x hx ht) h0⟩,fun b hb h0 ht => absurd (tz b hb ht) h0,fun x y hx ht hu => ?_,fun x y hx ht hdm => ?_⟩
  · have:=tz x hx ht;subst this;rw [u0 y hu];exact .refl _
  · have:=tz x hx ht;subst this;rw [hd0 y hdm];exact .refl _
 obtain ⟨dom',t',g1,g2,g3⟩:=pass_one he hl hr hp h1 hk ord [] _ false rfl (⟨by simp,i0,fun x hx => ⟨fun h => .inl (tz x hx h),fun h => by
  rcases h with h|h
  · rw [h,r0];exact Int.le_refl _
  · exact (List.not_mem_nil h).elim⟩,fun x h0 hx hx0 _ => rx x (by omega) hx,fun b hb => (List.not_mem_nil hb).elim⟩ : S1 Rm place E Dm [] _)
 have tall : ∀ x,Rm x → 0 ≤ rd dom' x:=fun x hx => (g2.told x hx).2 (.inr ((hr.mem x).2 hx))
 have s2 : S2 Rm place E Dm (rd dom') [] ord dom' := ⟨g2.len,g2.inv,tall,fun x x0 hx hn hx0 => g2.out x x0 hx hx0 (fun hm => hn ((hr.mem x).1 hm)),fun b hb => (List.not_mem_nil hb).elim,fun _ _ => rfl,fun b hb => (List.not_mem_nil hb).elim⟩
 obtain ⟨d,d1,d2⟩:=turn_more he hl hr hp h1 h2 hk (gap place ord dom' L + 1) dom' (by omega) s2 (fun x hx => g2.mn x ((hr.mem x).2 hx));refine ⟨gap place ord dom' L + 1 + 1,?_⟩;rw [doms_turn,g1,Option.bind_some];cases t' with
 | true => rw [if_pos rfl];exact ⟨d,d1,d2⟩
 | false =>
  rw [if_neg (by simp)];exact ⟨dom',rfl,g2.len,g2.inv,tall,fun x x0 hx hn => s2.out x x0 hx hn (fun e => hn (e ▸ he.r0)),fun b hb h0 => absurd ((g3 rfl).2 b ((hr.mem b).2 hb)) h0⟩
end
end Go.Proofs.Ytbklmnieakefnaa.Q
namespace Go.Proofs.Ytbklmnieakefnaa.Q
open Go.RowKit Go.Proofs.YtbklmnieakefnaaW.PrintWords
set_option linter.unusedVariables false
theorem place_ok : ∀ (bs : List Int) (i : Nat) (place : List Int),bs.Nodup → (∀ b ∈ bs,0 ≤ b ∧ b < (place.length : Int)) →
 ∃ p',doms_place bs i place = some p' ∧ p'.length = place.length ∧ (∀ x,0 ≤ x → x ∉ bs → rd p' x = rd place x) ∧ ∀ x ∈ bs,rd p' x = ((i + bs.idxOf x : Nat) : Int):=by
 intro bs;induction bs with
 | nil => exact fun i place _ _ => ⟨place,rfl,rfl,fun _ _ _ => rfl,fun x hx => (List.not_mem_nil hx).elim⟩
 | cons b bs ih =>
  intro i place hn hb;obtain ⟨n1,n2⟩:=List.nodup_cons.1 hn;have hb1:=hb b (by simp);obtain ⟨p',q1,q2,q3,q4⟩:=ih (i + 1) (place.set b.toNat (i : Int)) n2 (fun x hx => by rw [List.length_set];exact hb x (List.mem_cons_of_mem _ hx));rw [List.length_set] at q2;refine ⟨p',by rw [doms_place,if_pos hb1];exact q1,q2,fun x x0 hx => ?_,fun x hx => ?_⟩
  · rw [q3 x x0 (fun h => hx (List.mem_cons_of_mem _ h)),rd_set hb1.1 x0 (by omega),if_neg (fun e => hx (by simp [e]))]
  · by_cases e : x = b
    · subst e;rw [q3 x hb1.1 n1,rd_set hb1.1 hb1.1 (by omega),if_pos rfl,List.idxOf_cons_self];rfl
    · have hx2 : x ∈ bs:=(List.mem_cons.1 hx).resolve_left e;have hbeq : (b == x) = false:=by simp [Ne.symm e]
      rw [q4 x hx2,List.idxOf_cons,hbeq,cond_false];omega
inductive Avoid (g : Int → List Int) (n : Nat) (y : Int) : Int → Prop
 | zero (h : 0 ≠ y) : Avoid g n y 0
 | step {a b} (r : Avoid g n y a) (h : b ∈ g a) (h0 : 0 ≤ b) (h1 : b < (n : Int)) (hy : b ≠ y) : Avoid g n y b
def Must (g : Int → List Int) (n : Nat) (y b : Int) : Prop:=¬ Avoid g n y b
def Edge (g : Int → List Int) (O : List Int) (p b : Int) : Prop:=p ∈ O ∧ b ∈ O ∧ b ∈ g p
theorem idx_inj {O : List Int} {x y : Int} (hx : x ∈ O) (hy : y ∈ O) (h : O.idxOf x = O.idxOf y) : x = y:=by
 have h1:=List.getElem_idxOf (List.idxOf_lt_length_of_mem hx);have h2:=List.getElem_idxOf (List.idxOf_lt_length_of_mem hy);rw [← h1,← h2];congr 1
theorem idx_bef {O : List Int} (hn : O.Nodup) {x p : Int} (h : Bef O x p) : O.idxOf x < O.idxOf p:=by
 obtain ⟨u,v,rfl,h1,h2⟩:=h;have h3 : p ∉ u:=fun h => (List.nodup_append.1 hn).2.2 p h p h2 rfl
 rw [List.idxOf_append,if_pos h1,List.idxOf_append,if_neg h3];have:=List.idxOf_lt_length_of_mem h1;omega
structure Walked (l : List S45) (O : List Int) (place : List Int) : Prop where
 len : place.length = l.length
 nd : O.Nodup
 rng : ∀ x ∈ O,0 ≤ x ∧ x < (l.length : Int)
 cl : ∀ x ∈ O,∀ t ∈ succs l x,0 ≤ t → t < (l.length : Int) → t ∈ O
 way : ∀ x ∈ O,Way (succs l) l.length 0 x
 last : ∃ O1,O = O1 ++ [0]
 env : Env (· ∈ O) (rd place) (Edge (succs l) O)
 lay : Lay (· ∈ O) place O.length
 rank : Rank (· ∈ O) (rd place) O.reverse
 plc : ∀ x ∈ O,rd place x = (O.idxOf x : Int)
 out : ∀ x,0 ≤ x → x < (l.length : Int) → x ∉ O → rd place x = -1
theorem walked {l : List S45} {M' : List Bool} {O : List Int} (hn : 0 < l.length) (h : F (succs l) l.length [0] (List.replicate l.length false) [] M' O) :
 ∃ place,doms_place O 0 (List.replicate l.length (-1)) = some place ∧ Walked l O place ∧ O.length ≤ l.length:=by
 obtain ⟨O1,hv,eO⟩:=h.root hn;have hnum:=(h.num (by simp)).1;rw [cnt_replicate] at hnum;obtain ⟨_,N,e,h3,h4,h5,h6,h7,h8⟩:=h.props (by simp);rw [List.nil_append] at e;subst e;have rng : ∀ x ∈ O,0 ≤ x ∧ x < (l.length : Int):=fun x hx => ⟨((h4 x).1 hx).1,((h4 x).1 hx).2.1⟩
 obtain ⟨place,p1,p2,p3,p4⟩:=place_ok O 0 (List.replicate l.length (-1)) h3 (fun b hb => by simpa using rng b hb);have m1 : ∀ x : Int,rd (List.replicate l.length (-1)) x = -1 ∨ rd (List.replicate l.length (-1)) x = 0 ∧ ¬ x < (l.length : Int):=fun x => by
  simp only [rd,List.getD_eq_getElem?_getD,List.getElem?_replicate]
  split
  · exact .inl rfl
  · exact .inr ⟨rfl,by omega⟩
 rw [List.length_replicate] at p2;have plc : ∀ x ∈ O,rd place x = (O.idxOf x : Int):=fun x hx => by rw [p4 x hx];simp
 have mem0 : (0 : Int) ∈ O:=by rw [eO];simp
 have idlt : ∀ x ∈ O,O.idxOf x < O.length:=fun x hx => List.idxOf_lt_length_of_mem hx
 have i0 : O.idxOf 0 + 1 = O.length:=by
  have hz : (0 : Int) ∉ O1:=fun h => by rw [eO] at h3;exact (List.nodup_append.1 h3).2.2 0 h 0 (by simp) rfl
  rw [eO,List.idxOf_append,if_neg hz,List.idxOf_cons_self];simp
 refine ⟨place,p1,⟨p2,h3,rng,fun x hx t ht t0 t1 => ?_,fun x hx => ?_,⟨O1,eO⟩,?_,?_,?_,plc,?_⟩,by simp only [List.length_nil] at hnum;omega⟩
 · refine (h4 t).2 ⟨t0,t1,?_,h5 x hx t ht t0 t1⟩;have : t.toNat < l.length:=by omega
   simp [mt,rdOf,List.getD_eq_getElem?_getD,this]
 · obtain ⟨t,ht,_,_,hw⟩:=h8 x hx;rw [List.mem_singleton.1 ht] at hw;exact hw
 · refine ⟨mem0,fun x y hx hy he => ?_,fun x hx => ?_,fun x hx => (rng x hx).1,fun x hx => ?_,fun p b hE => ⟨hE.1,hE.2.1⟩,fun b hb hb0 => ?_⟩
   · rw [plc x hx,plc y hy] at he;exact idx_inj hx hy (by omega)
   · rw [plc x hx,plc 0 mem0];have:=idlt x hx;omega
   · rw [plc x hx];omega
   · rcases h7 b hb with h | ⟨p,hp,hg,hbf⟩
     · exact absurd (List.mem_singleton.1 h) hb0
     · refine ⟨p,⟨hp,hb,hg⟩,?_⟩;rw [plc p hp,plc b hb];have:=idx_bef h3 hbf;omega
 · refine ⟨fun x hx => by rw [p2];exact (rng x hx).2,fun x hx => by rw [plc x hx];have:=idlt x hx;omega,fun x x0 x1 hp => ?_⟩;by_cases hx : x ∈ O
   · exact hx
   · rw [p3 x x0 hx] at hp;rw [p2] at x1;rcases m1 x with h|h
     · omega
     · exact absurd x1 h.2
 · refine ⟨fun x => List.mem_reverse,?_⟩;rw [List.pairwise_reverse,List.pairwise_iff_getElem];intro i j hi hj hij;rw [plc _ (List.getElem_mem hi),plc _ (List.getElem_mem hj),List.Nodup.idxOf_getElem h3 i hi,List.Nodup.idxOf_getElem h3 j hj];omega
 · intro x x0 x1 hx;rw [p3 x x0 hx];rcases m1 x with h|h
   · exact h
   · exact absurd x1 h.2
theorem preds_prE {l : List S45} {O place : List Int} (hw : Walked l O place) {X : List (List Int)} (h : PSpec l X) : PrE (· ∈ O) (Edge (succs l) O) X place.length:=by
 refine ⟨fun b hb => (h.2 b (hw.rng b hb).1 (hw.rng b hb).2).1,fun b hb p hp => ?_,fun b hb p hp => ?_⟩
 · have:=((h.2 b (hw.rng b hb).1 (hw.rng b hb).2).2 p).1 hp;rw [hw.len];exact ⟨this.1,this.2.1⟩
 · rw [(h.2 b (hw.rng b hb).1 (hw.rng b hb).2).2 p];exact ⟨fun h => ⟨hp,hb,h.2.2⟩,fun h => ⟨(hw.rng p hp).1,(hw.rng p hp).2,h.2.2⟩⟩
theorem must_edge {l : List S45} {O : List Int} (hr : ∀ x ∈ O,0 ≤ x ∧ x < (l.length : Int)) (y b p : Int) (h : Must (succs l) l.length y b) (hne : y ≠ b) (he : Edge (succs l) O p b) : Must (succs l) l.length y p :=
 fun ha => h (.step ha he.2.2 (hr b he.2.1).1 (hr b he.2.1).2 (Ne.symm hne))
theorem inc_le {pl : Int → Int} {E : Int → Int → Prop} {b x : Int} (h : Inc pl E b x) : pl x ≤ pl b:=by
 induction h with
 | refl => exact Int.le_refl _
 | step _ _ hl ih => omega
theorem must_inc {l : List S45} {O : List Int} {pl : Int → Int} (hr : ∀ x ∈ O,0 ≤ x ∧ x < (l.length : Int)) (y x b : Int) (h : Must (succs l) l.length y x) (hi : Inc pl (Edge (succs l) O) b x) (hlt : pl b < pl y) : Must (succs l) l.length y b:=by
 intro ha;refine h ?_;clear h;induction hi with
 | refl => exact ha
 | @step p x r he hl ih =>
  have:=inc_le r;exact .step ih he.2.2 (hr _ he.2.1).1 (hr _ he.2.1).2 (fun e => by subst e;omega)
theorem must_zero {g : Int → List Int} {n : Nat} (y : Int) (h : Must g n y 0) : y = 0:=Classical.byContradiction fun hc => h (.zero (Ne.symm hc))
theorem doms_all {a0 : ByteArray} {a1 a2 a3 : Int} {l : List S45} (hs : Small l) (hn : 0 < l.length) {M' : List Bool} {O : List Int} (h : F (succs l) l.length [0] (List.replicate l.length false) [] M' O) :
 ∃ place fix,Walked l O place ∧ Fix (· ∈ O) place (Edge (succs l) O) (Must (succs l) l.length) fix ∧ ∃ k,fS.f k a0 a1 a2 a3 l = some (fix.set 0 (-1)):=by
 obtain ⟨place,h1,hw,hO⟩:=walked hn h;obtain ⟨kP,hP⟩:=it_post (a0:=a0) (a1:=a1) (a2:=a2) (a3:=a3) hs hn h;obtain ⟨kX,X,hX,hXs⟩:=preds_all (a0:=a0) (a1:=a1) (a2:=a2) (a3:=a3) hs;obtain ⟨kT,fix,hT,hF⟩:=turn_all hw.env hw.lay hw.rank (preds_prE hw hXs) (Dm:=Must (succs l) l.length) (fun y b p => must_edge hw.rng y b p) (fun y x b => must_inc hw.rng y x b) (fun y => must_zero y) (Nat.le_refl (2 * O.length + 1));refine ⟨place,fix,hw,hF,kP + kX + kT + (2 * O.length + 1),?_⟩;have e1:=up_ (fun k => fD.mono a0 a1 a2 a3 l k) (show kP ≤ kP + kX + kT + (2 * O.length + 1) by omega) hP;have e2:=up_ (fun k => fQ.mono a0 a1 a2 a3 l k) (show kX ≤ kP + kX + kT + (2 * O.length + 1) by omega) hX;have e3:=up_ (fun k => doms_turn.mono_kf place X k O.reverse kT ((List.replicate place.length (-1)).set 0 0)) (show 2 * O.length + 1 ≤ kP + kX + kT + (2 * O.length + 1) by omega) hT;have e4:=up_ (fun k => doms_turn.mono_k place X (kP + kX + kT + (2 * O.length + 1)) O.reverse k ((List.replicate place.length (-1)).set 0 0)) (show kT ≤ kP + kX + kT + (2 * O.length + 1) by omega) e3;obtain ⟨O1,eO⟩:=hw.last;have hO0 : O.length ≠ 0:=by rw [eO];simp
 have hsl:=hs.1;rw [hw.len] at e4;rw [fS.f,e1,Option.bind_some,if_pos (by omega),if_pos (by omega),h1,Option.bind_some,if_neg (by omega),if_neg hO0,e2,Option.bind_some,if_pos hXs.1,e4,Option.bind_some]
theorem up_must {l : List S45} {O place fix : List Int} (hw : Walked l O place) (hF : Fix (· ∈ O) place (Edge (succs l) O) (Must (succs l) l.length) fix) {y b : Int} (ha : Avoid (succs l) l.length y b) : b ∈ O ∧ ¬ Up (rd fix) b y:=by
 induction ha with
 | zero h =>
  refine ⟨hw.env.r0,fun hu => ?_⟩;cases hu with
  | refl => exact h rfl
  | step h0 _ => exact h0 rfl
 | @step a b r hb h0 h1 hy ih =>
  have hbO:=hw.cl a ih.1 b hb h0 h1;refine ⟨hbO,fun hu => ?_⟩;obtain ⟨hb0,hu2⟩:=hu.next hy;exact ih.2 (((hF.best b hbO hb0).c a ⟨ih.1,hbO,hb⟩ (hF.told a ih.1)).trans hu2)
theorem up_iff {l : List S45} {O place fix : List Int} (hw : Walked l O place) (hF : Fix (· ∈ O) place (Edge (succs l) O) (Must (succs l) l.length) fix) {y b : Int} (hb : b ∈ O) : Up (rd fix) b y ↔ Must (succs l) l.length y b :=
 ⟨fun h ha => (up_must hw hF ha).2 h,fun h => hF.inv.keep b y hb (hF.told b hb) h⟩
end Go.Proofs.Ytbklmnieakefnaa.Q
namespace Go.Proofs.Ytbklmnieakefnaa.Q
open Go.RowKit Go.Proofs.YtbklmnieakefnaaW.PrintWords
set_option linter.unusedVariables false
def bareB (y : S45) : S45:=⟨[],y.f1,if y.f1 = 2 then 0 else if y.f1 = 3 then -1 else y.f2,y.f3⟩
theorem w62 {i : Nat} (h : i ≤ 4611686018427387904) : wrap64 ((i : Int) + 1) = ((i + 1 : Nat) : Int):=by unfold wrap64;omega
theorem drop45 {l : List S45} {i : Nat} (h : i < l.length) : l.take (i + 1) = l.take i ++ [rd_T45 l (i : Int)]:=by
 rw [List.take_add_one];simp [rd_T45,List.getD_eq_getElem?_getD,h]
theorem at_last45 {u : List S45} {v : S45} {i : Nat} (h : u.length = i) : rd_T45 (u ++ [v]) (i : Int) = v:=by
 subst h;simp [rd_T45,List.getD_eq_getElem?_getD]
theorem set_last45 {u : List S45} {v w : S45} {i : Nat} (h : u.length = i) : (u ++ [v]).set ((i : Int)).toNat w = u ++ [w]:=by
 subst h;rw [Int.toNat_natCast,List.set_append_right _ _ (Nat.le_refl _)];simp
theorem bare_l0 {a0 b0 : ByteArray} {a1 a2 a3 b1 b2 b3 : Int} {l : List S45} (hs : Small l) : ∀ (j i : Nat),i + j = l.length → Ev (fun k => fG.l0 k i a0 a1 a2 a3 l b0 b1 b2 b3 ((l.take i).map bareB)) (b0,b1,b2,b3,l.map bareB):=by
 have hl:=hs.1;intro j;induction j with
 | zero =>
  intro i hi;refine Ev.step (f:=fun _ => some (b0,b1,b2,b3,l.map bareB)) (fun k => ?_) (Ev.now _);rw [fG.l0,if_neg (by omega),List.take_of_length_le (by omega)]
 | succ j ih =>
  intro i hi;refine Ev.step (fun k => ?_) (ih (i + 1) (by omega));have hlen : ((l.take i).map bareB).length = i:=by simp;omega
  have e : (l.take (i + 1)).map bareB = (l.take i).map bareB ++ [bareB (rd_T45 l (i : Int))]:=by rw [drop45 (by omega)];simp
  rw [fG.l0,if_pos (by omega),if_pos (by omega),if_pos (by omega),Option.bind_some,if_pos (by rw [List.length_append,hlen,List.length_singleton];omega),at_last45 hlen,w64 (by omega),e];dsimp only;by_cases c2 : (rd_T45 l (i : Int)).f1 = 2
  · rw [if_pos c2,set_last45 hlen];simp only [bareB,if_pos c2]
  · rw [if_neg c2];by_cases c3 : (rd_T45 l (i : Int)).f1 = 3
    · rw [if_pos c3,set_last45 hlen];simp only [bareB,if_neg c2,if_pos c3]
    · rw [if_neg c3];simp only [bareB,if_neg c2,if_neg c3]
theorem ev_bare {a0 : ByteArray} {a1 a2 a3 : Int} {l : List S45} (hs : Small l) : Ev (fun k => fG.f k a0 a1 a2 a3 l) (⟨#[]⟩,0,1,0,l.map bareB) :=
 Ev.congr (fun k => by rw [fG.f];rfl) (bare_l0 hs l.length 0 (by omega))
theorem bare_small {l : List S45} (hs : Small l) : Small (l.map bareB):=by
 refine ⟨by rw [List.length_map];exact hs.1,fun y hy => ?_⟩;obtain ⟨x,hx,rfl⟩:=List.mem_map.1 hy;exact hs.2 x hx
theorem bare_code {l : List S45} (b : Int) : (rd_T45 (l.map bareB) b).f0 = []:=by
 unfold rd_T45;rw [List.getD_eq_getElem?_getD,List.getElem?_map];cases l[b.toNat]? <;> rfl
theorem same_l0 {xs : List Int} (hx : xs.length ≤ 4611686018427387904) : ∀ (j i : Nat),i + j = xs.length → Ev (fun k => fP.l0 k xs xs i) true:=by
 intro j;induction j with
 | zero =>
  intro i hi;refine Ev.step (f:=fun _ => some true) (fun k => ?_) (Ev.now _);rw [fP.l0,if_neg (by omega)]
 | succ j ih =>
  intro i hi;refine Ev.step (fun k => ?_) (ih (i + 1) (by omega));rw [fP.l0,if_pos (by omega),if_pos (by omega),if_pos (by omega),if_pos rfl,w62 (by omega)]
theorem ev_same {xs : List Int} (hx : xs.length ≤ 4611686018427387904) : Ev (fun k => fP.f k xs xs) true :=
 Ev.congr (fun k => by rw [fP.f,if_pos rfl];rfl) (same_l0 hx xs.length 0 (by omega))
theorem has_l0 {xs : List Int} {v : Int} (hx : xs.length ≤ 4611686018427387904) : ∀ (j i : Nat),i + j = xs.length → Ev (fun k => fJ.l0 k xs v i) (decide (v ∈ xs.drop i)):=by
 intro j;induction j with
 | zero =>
  intro i hi;refine Ev.step (f:=fun _ => some false) (fun k => ?_) (by rw [List.drop_of_length_le (by omega)];exact Ev.now _);rw [fJ.l0,if_neg (by omega)]
 | succ j ih =>
  intro i hi;have hd : xs.drop i = rd xs (i : Int) :: xs.drop (i + 1):=by
   rw [List.drop_eq_getElem_cons (show i < xs.length by omega)];simp [rd,List.getD_eq_getElem?_getD,show i < xs.length by omega]
  by_cases c : rd xs (i : Int) = v
  · refine Ev.step (f:=fun _ => some true) (fun k => ?_) (by rw [hd,c];simpa using Ev.now true);rw [fJ.l0,if_pos (by omega),if_pos (by omega),if_pos c]
  · have e : decide (v ∈ xs.drop i) = decide (v ∈ xs.drop (i + 1)):=by
     rw [hd];simp [Ne.symm c]
    rw [e];refine Ev.step (fun k => ?_) (ih (i + 1) (by omega));rw [fJ.l0,if_pos (by omega),if_pos (by omega),if_neg c,w62 (by omega)]
theorem ev_has {xs : List Int} {v : Int} (hx : xs.length ≤ 4611686018427387904) : Ev (fun k => fJ.f k xs v) (decide (v ∈ xs)) :=
 Ev.congr (fun k => by rw [fJ.f];rfl) (has_l0 (v:=v) hx xs.length 0 (by omega))
section
variable {a0 : ByteArray} {a1 a2 a3 : Int} {l : List S45}
theorem rpreds_l1 (hs : Small l) {b : Nat} (hb : b < l.length) (ih : ∀ X,PInv l (b + 1) 0 X → ∃ r,Ev (fun k => fF.l0 k X ((b + 1 : Nat) : Int) a0 a1 a2 a3 l) r ∧ PSpec l r) :
 ∀ (j i : Nat) (X : List (List Int)),i + j = (succs l b).length → PInv l b i X → ∃ r,Ev (fun k => fF.l1 k X b i a0 a1 a2 a3 l) r ∧ PSpec l r:=by
 have hr:=hs.row (b : Int);have hl:=hs.1;intro j;induction j with
 | zero =>
  intro i X hi h;have e : i = (succs l b).length:=by omega
  subst e;obtain ⟨r,h1,h2⟩:=ih X (h.next hs);refine ⟨r,Ev.step (fun k => ?_) h1,h2⟩;rw [fF.l1,show (rd_T45 l b).f3 = succs l b from rfl,if_pos (by omega),if_pos (by omega),if_neg (by omega),w64 (by omega)]
 | succ j ihj =>
  intro i X hi h;have hi' : i < (succs l b).length:=by omega
  obtain ⟨t,ht⟩ : ∃ t,rd (succs l b) (i : Int) = t:=⟨_,rfl⟩
  by_cases c0 : t ≥ 0
  · by_cases c1 : t < (l.length : Int)
    · have hlen:=(h.2 t c0 c1).1;have hlt : (rd_L1 X t).length < 17592186044416:=by
       have : b * 1048576 ≤ 1048576 * 1048576:=Nat.mul_le_mul_right _ (by omega);omega
      have hh:=ev_has (xs:=rd_L1 X t) (v:=(b : Int)) (by omega);by_cases hm : (b : Int) ∈ rd_L1 X t
      · obtain ⟨r,h1,h2⟩:=ihj (i + 1) X (by omega) (h.skip hi' (.inr (by rw [ht];exact hm)));rw [decide_eq_true hm] at hh;refine ⟨r,Ev.step (f:=fun k => (fJ.f k (rd_L1 X t) b).bind fun t124 => if t124 = true then fF.l1 k X b ((i + 1 : Nat) : Int) a0 a1 a2 a3 l else if (rd_L1 X t).length < 17592186044416 then fF.l1 k (X.set t.toNat (rd_L1 X t ++ [(b : Int)])) b ((i + 1 : Nat) : Int) a0 a1 a2 a3 l else none) (fun k => ?_) (Ev.bind hh (by simpa using h1)),h2⟩;rw [fF.l1,show (rd_T45 l b).f3 = succs l b from rfl,if_pos (by omega),if_pos (by omega),if_pos (by omega),if_pos (by omega),ht,if_pos c0,if_pos c1,if_pos c0,if_pos (by rw [h.1];exact c1),w64 (by omega)]
      · have ha:=h.add hi' (by rw [ht];exact c0) (by rw [ht];exact c1);rw [ht] at ha;obtain ⟨r,h1,h2⟩:=ihj (i + 1) _ (by omega) ha;rw [decide_eq_false hm] at hh;refine ⟨r,Ev.step (f:=fun k => (fJ.f k (rd_L1 X t) b).bind fun t124 => if t124 = true then fF.l1 k X b ((i + 1 : Nat) : Int) a0 a1 a2 a3 l else if (rd_L1 X t).length < 17592186044416 then fF.l1 k (X.set t.toNat (rd_L1 X t ++ [(b : Int)])) b ((i + 1 : Nat) : Int) a0 a1 a2 a3 l else none) (fun k => ?_) (Ev.bind hh (by simpa [hlt] using h1)),h2⟩;rw [fF.l1,show (rd_T45 l b).f3 = succs l b from rfl,if_pos (by omega),if_pos (by omega),if_pos (by omega),if_pos (by omega),ht,if_pos c0,if_pos c1,if_pos c0,if_pos (by rw [h.1];exact c1),w64 (by omega)]
    · obtain ⟨r,h1,h2⟩:=ihj (i + 1) X (by omega) (h.skip hi' (.inl (by rw [ht];exact fun hc => c1 hc.2)));refine ⟨r,Ev.step (fun k => ?_) h1,h2⟩;rw [fF.l1,show (rd_T45 l b).f3 = succs l b from rfl,if_pos (by omega),if_pos (by omega),if_pos (by omega),if_pos (by omega),ht,if_pos c0,if_neg c1,w64 (by omega)]
  · obtain ⟨r,h1,h2⟩:=ihj (i + 1) X (by omega) (h.skip hi' (.inl (by rw [ht];exact fun hc => c0 hc.1)));refine ⟨r,Ev.step (fun k => ?_) h1,h2⟩;rw [fF.l1,show (rd_T45 l b).f3 = succs l b from rfl,if_pos (by omega),if_pos (by omega),if_pos (by omega),if_pos (by omega),ht,if_neg c0,w64 (by omega)]
theorem rpreds_l0 (hs : Small l) : ∀ (j b : Nat) (X : List (List Int)),b + j = l.length → PInv l b 0 X → ∃ r,Ev (fun k => fF.l0 k X b a0 a1 a2 a3 l) r ∧ PSpec l r:=by
 have hl:=hs.1;intro j;induction j with
 | zero =>
  intro b X hb h;refine ⟨X,Ev.step (f:=fun _ => some X) (fun k => ?_) (Ev.now _),h.1,fun t t0 t1 => ?_⟩
  · rw [fF.l0,if_neg (by omega)]
  · have ht:=h.2 t t0 t1;refine ⟨?_,fun p => ?_⟩
    · have : b * 1048576 ≤ 1048576 * 1048576:=Nat.mul_le_mul_right _ (by omega);omega
    · rw [ht.2 p];have e : (b : Int) = (l.length : Int):=by omega
      simp [e]
 | succ j ihj =>
  intro b X hb h;obtain ⟨r,h1,h2⟩:=rpreds_l1 hs (b:=b) (by omega) (fun X' h' => ihj (b + 1) X' (by omega) h') (succs l b).length 0 X (by omega) h;refine ⟨r,Ev.step (fun k => ?_) h1,h2⟩;rw [fF.l0,if_pos (by omega)];rfl
theorem ev_rpreds (hs : Small l) : ∃ r,Ev (fun k => fF.f k a0 a1 a2 a3 l) r ∧ PSpec l r:=by
 have h0 : PInv l 0 0 (List.replicate l.length []):=by
  refine ⟨by simp,fun t t0 t1 => ?_⟩;have e : rd_L1 (List.replicate l.length ([] : List Int)) t = []:=by
   simp only [rd_L1,List.getD_eq_getElem?_getD,List.getElem?_replicate]
   split <;> rfl
  rw [e];refine ⟨by simp,fun p => ⟨fun h => (List.not_mem_nil h).elim,?_⟩⟩;rintro (⟨h1,h2,_⟩ | ⟨_,h2⟩)
  · omega
  · simp at h2
 obtain ⟨r,h1,h2⟩:=rpreds_l0 (a0:=a0) (a1:=a1) (a2:=a2) (a3:=a3) hs l.length 0 _ (by omega) h0;have hl:=hs.1;refine ⟨r,Ev.congr (fun k => ?_) h1,h2⟩;rw [fF.f,if_pos (by omega),if_pos (by omega),Int.toNat_natCast];rfl
theorem ends_l0 {c : List S59} {e1 e2 : Int} {ts : List Int} (hts : ts.length ≤ 1048576) : ∀ (j i : Nat),i + j = ts.length → ∃ t,Ev (fun k => fI.l0 k (ts.length : Int) i a0 a1 a2 a3 l c e1 e2 ts) t ∧ (t = true → ∀ s ∈ ts.drop i,0 ≤ s ∧ s < (l.length : Int)):=by
 intro j;induction j with
 | zero =>
  intro i hi;refine ⟨true,Ev.step (f:=fun _ => some true) (fun k => ?_) (Ev.now _),fun _ s hs => ?_⟩
  · rw [fI.l0,if_neg (by omega)]
  · rw [List.drop_of_length_le (by omega)] at hs;exact (List.not_mem_nil hs).elim
 | succ j ih =>
  intro i hi;have hd : ts.drop i = rd ts (i : Int) :: ts.drop (i + 1):=by
   rw [List.drop_eq_getElem_cons (show i < ts.length by omega)];simp [rd,List.getD_eq_getElem?_getD,show i < ts.length by omega]
  by_cases c0 : rd ts (i : Int) < 0
  · refine ⟨false,Ev.step (f:=fun _ => some false) (fun k => ?_) (Ev.now _),fun h => by cases h⟩;rw [fI.l0,if_pos (by omega),if_pos (by omega),if_pos (by omega),if_pos c0]
  · by_cases c1 : rd ts (i : Int) ≥ (l.length : Int)
    · refine ⟨false,Ev.step (f:=fun _ => some false) (fun k => ?_) (Ev.now _),fun h => by cases h⟩;rw [fI.l0,if_pos (by omega),if_pos (by omega),if_pos (by omega),if_neg c0,if_pos c1]
    · obtain ⟨t,h1,h2⟩:=ih (i + 1) (by omega);refine ⟨t,Ev.step (fun k => ?_) h1,fun h s hs => ?_⟩
      · rw [fI.l0,if_pos (by omega),if_pos (by omega),if_pos (by omega),if_neg c0,if_neg c1,w64 (by omega)]
      · rw [hd] at hs;rcases List.mem_cons.1 hs with rfl|hs
        · omega
        · exact h2 h s hs
theorem ends_j0 {c : List S59} {e1 e2 : Int} {ts : List Int} (hts : ts.length ≤ 1048576) (x : Int) : ∃ t,Ev (fun k => fI.j0 k x a0 a1 a2 a3 l c e1 e2 ts) t ∧ (t = true → ∀ s ∈ ts,0 ≤ s ∧ s < (l.length : Int)):=by
 by_cases h : (ts.length : Int) = x
 · subst h;obtain ⟨t,h1,h2⟩:=ends_l0 (a0:=a0) (a1:=a1) (a2:=a2) (a3:=a3) (l:=l) (c:=c) (e1:=e1) (e2:=e2) hts ts.length 0 (by omega);exact ⟨t,Ev.step (fun k => by rw [fI.j0,if_pos rfl];rfl) h1,h2⟩
 · exact ⟨false,Ev.step (f:=fun _ => some false) (fun k => by rw [fI.j0,if_neg h]) (Ev.now _),fun h => by cases h⟩
theorem reg_tot (v : Int) : ∃ t,fV.f a0 a1 a2 a3 l v = some t:=by
 rw [fV.f];by_cases h : v ≥ 0
 · rw [if_pos h];exact ⟨_,rfl⟩
 · rw [if_neg h];exact ⟨_,rfl⟩
theorem ev_ends {c : List S59} (e1 e2 : Int) {ts : List Int} (hts : ts.length ≤ 1048576) : ∃ t,Ev (fun k => fI.f k a0 a1 a2 a3 l c e1 e2 ts) t ∧ (t = true → ∀ s ∈ ts,0 ≤ s ∧ s < (l.length : Int)):=by
 have no : ∃ t,Ev (fun _ => (some false : Option Bool)) t ∧ (t = true → ∀ s ∈ ts,0 ≤ s ∧ s < (l.length : Int)):=⟨false,Ev.now _,fun h => by cases h⟩
 have go:=fun x => ends_j0 (a0:=a0) (a1:=a1) (a2:=a2) (a3:=a3) (l:=l) (c:=c) (e1:=e1) (e2:=e2) hts x
 obtain ⟨t,ht⟩:=reg_tot (a0:=a0) (a1:=a1) (a2:=a2) (a3:=a3) (l:=l) e2;simp only [fI.f,ht,Option.bind_some];by_cases h1 : e1 = 1
 · simp only [if_pos h1];by_cases h2 : e2 = 0
   · simp only [if_pos h2];exact go 1
   · simp only [if_neg h2];exact no
 · simp only [if_neg h1];by_cases h2 : e1 = 2
   · simp only [if_pos h2];by_cases h3 : t = true
     · simp only [if_pos h3];exact go 2
     · simp only [if_neg h3];exact no
   · simp only [if_neg h2];by_cases h3 : e1 = 3
     · simp only [if_pos h3];by_cases h4 : e2 = -1
       · simp only [if_pos h4];exact go 0
       · simp only [if_neg h4];by_cases h5 : t = true
         · simp only [if_pos h5];exact go 0
         · simp only [if_neg h5];exact no
     · simp only [if_neg h3];exact no
structure Granted (l : List S45) : Prop where
 num : 0 < l.length ∧ l.length ≤ 48
 rng : ∀ b,0 ≤ b → b < (l.length : Int) → ∀ s ∈ succs l b,0 ≤ s ∧ s < (l.length : Int)
 root : ∀ p,0 ≤ p → p < (l.length : Int) → 0 ∉ succs l p
theorem func_l1 (hs : Small l) (hc : ∀ b,(rd_T45 l b).f0 = []) : ∀ (j i : Nat),i + j = l.length → ∃ t,Ev (fun k => fC.l1 k i a0 a1 a2 a3 l) t ∧ (t = true → ∀ b : Int,i ≤ b → b < (l.length : Int) → ∀ s ∈ succs l b,0 ≤ s ∧ s < (l.length : Int)):=by
 have hl:=hs.1;intro j;induction j with
 | zero =>
  intro i hi;refine ⟨true,Ev.step (f:=fun _ => some true) (fun k => ?_) (Ev.now _),fun _ b h0 h1 => by omega⟩;rw [fC.l1,if_neg (by omega)]
 | succ j ih =>
  intro i hi;obtain ⟨t,h1,h2⟩:=ih (i + 1) (by omega);obtain ⟨u,g1,g2⟩:=ev_ends (a0:=a0) (a1:=a1) (a2:=a2) (a3:=a3) (l:=l) (c:=[]) (rd_T45 l i).f1 (rd_T45 l i).f2 (hs.row (i : Int));have step : ∀ k,fC.l1 (k + 2) i a0 a1 a2 a3 l = (fI.f k a0 a1 a2 a3 l [] (rd_T45 l i).f1 (rd_T45 l i).f2 (succs l i)).bind fun t164 => if t164 = true then fC.l1 k ((i + 1 : Nat) : Int) a0 a1 a2 a3 l else some false:=fun k => by
   rw [fC.l1,if_pos (by omega),if_pos (by omega),fC.l2,hc,if_neg (by simp),w64 (by omega)];rfl
  cases u with
  | false =>
   refine ⟨false,Ev.step (f:=fun k => fC.l1 (k + 1) i a0 a1 a2 a3 l) (fun k => rfl) (Ev.step (fun k => step k) (Ev.bind g1 (by simpa using Ev.now false))),fun h => by cases h⟩
  | true =>
   refine ⟨t,Ev.step (f:=fun k => fC.l1 (k + 1) i a0 a1 a2 a3 l) (fun k => rfl) (Ev.step (fun k => step k) (Ev.bind g1 (by simpa using h1))),fun h b b0 b1 => ?_⟩;by_cases e : b = (i : Int)
   · subst e;exact g2 rfl
   · exact h2 h b (by omega) b1
theorem func_l0 (hs : Small l) (hc : ∀ b,(rd_T45 l b).f0 = []) (hn : 0 < l.length) : ∀ (j i : Nat),i + j = l.length → ∃ t,Ev (fun k => fC.l0 k 0 i a0 a1 a2 a3 l) t ∧ (t = true → (∀ b,0 ≤ b → b < (l.length : Int) → ∀ s ∈ succs l b,0 ≤ s ∧ s < (l.length : Int)) ∧ ∀ p,0 ≤ p → p < (l.length : Int) → 0 ∉ succs l p):=by
 have hl:=hs.1;intro j;induction j with
 | zero =>
  intro i hi;obtain ⟨X,x1,x2⟩:=ev_rpreds (a0:=a0) (a1:=a1) (a2:=a2) (a3:=a3) hs;have step : ∀ k,fC.l0 (k + 1) 0 i a0 a1 a2 a3 l = (fF.f k a0 a1 a2 a3 l).bind fun t158 => if 0 < (t158.length : Int) then (if ((rd_L1 t158 0).length : Int) > 0 then some false else fC.l1 k 0 a0 a1 a2 a3 l) else none:=fun k => by
   rw [fC.l0,if_neg (by omega),if_neg (by omega)]
  have hX : 0 < (X.length : Int):=by rw [x2.1];omega
  by_cases hz : ((rd_L1 X 0).length : Int) > 0
  · exact ⟨false,Ev.step step (Ev.bind x1 (by simp only [if_pos hX,if_pos hz];exact Ev.now _)),fun h => by cases h⟩
  · obtain ⟨t,h1,h2⟩:=func_l1 (a0:=a0) (a1:=a1) (a2:=a2) (a3:=a3) hs hc l.length 0 (by omega);refine ⟨t,Ev.step step (Ev.bind x1 (by simp only [if_pos hX,if_neg hz];exact h1)),fun h => ⟨fun b b0 b1 => h2 h b b0 b1,fun p p0 p1 hm => ?_⟩⟩;have:=((x2.2 0 (Int.le_refl _) (by omega)).2 p).2 ⟨p0,p1,hm⟩;have h3:=List.length_pos_of_mem this;omega
 | succ j ih =>
  intro i hi;obtain ⟨t,h1,h2⟩:=ih (i + 1) (by omega);refine ⟨t,Ev.step (fun k => ?_) h1,h2⟩;rw [fC.l0,if_pos (by omega),if_pos (by omega),hc,w64 (by omega),show wrap64 (0 + (([] : List S59).length : Int)) = 0 from by simp [wrap64]]
theorem ev_may (hs : Small l) (hc : ∀ b,(rd_T45 l b).f0 = []) : ∃ t,Ev (fun k => fN.f k ⟨#[]⟩ 0 1 0 l) t ∧ (t = true → Granted l):=by
 by_cases h48 : (l.length : Int) ≤ 48
 · by_cases h1 : (l.length : Int) < 1
   · refine ⟨false,Ev.congr (f:=fun k => (fC.j0 k true ⟨#[]⟩ 0 1 0 l).bind fun t169 => some t169) (fun k => ?_) (Ev.bind (Ev.step (f:=fun _ => some false) (fun k => by rw [fC.j0,if_pos rfl]) (Ev.now _)) (Ev.now _)),fun h => by cases h⟩;rw [fN.f,if_pos h48,if_pos (by omega),fC.f,if_pos h1]
   · obtain ⟨t,g1,g2⟩:=func_l0 (a0:=⟨#[]⟩) (a1:=0) (a2:=1) (a3:=0) hs hc (by omega) l.length 0 (by omega);refine ⟨t,Ev.congr (f:=fun k => (fC.j0 k false ⟨#[]⟩ 0 1 0 l).bind fun t169 => some t169) (fun k => ?_) (Ev.bind (Ev.step (fun k => by rw [fC.j0,if_neg (by simp)];rfl) g1) (Ev.now _)),fun h => ⟨by omega,(g2 h).1,(g2 h).2⟩⟩;rw [fN.f,if_pos h48,if_pos (by omega),fC.f,if_neg h1,if_neg (by omega),if_neg (by omega),if_neg (by omega),if_neg (by omega),if_neg (by omega),if_neg (by omega),if_neg (by omega)];rfl
 · refine ⟨false,Ev.congr (f:=fun _ => some false) (fun k => ?_) (Ev.now _),fun h => by cases h⟩;rw [fN.f,if_neg h48]
end
theorem ev_awake : Ev (fun k => fO.f k) true:=Ev.of (k:=40) fO.mono (by decide +kernel)
end Go.Proofs.Ytbklmnieakefnaa.Q
namespace Go.Proofs.Ytbklmnieakefnaa.Q
open Go.RowKit Go.Proofs.YtbklmnieakefnaaW.PrintWords
set_option linter.unusedVariables false
theorem ev_tree {l : List S45} (hs : Small l) (hn : 0 < l.length) (a0 : ByteArray) (a1 a2 a3 : Int) : ∃ M' O place fix,F (succs l) l.length [0] (List.replicate l.length false) [] M' O ∧ Walked l O place ∧ O.length ≤ l.length ∧ Fix (· ∈ O) place (Edge (succs l) O) (Must (succs l) l.length) fix ∧
 Ev (fun k => fS.f k a0 a1 a2 a3 l) (fix.set 0 (-1)):=by
 obtain ⟨M',O,h⟩:=F.exists (g:=succs l) (n:=l.length) l.length [0] (List.replicate l.length false) [] (by simp) (by rw [cnt_replicate];exact Nat.le_refl _);obtain ⟨pl0,_,_,hO⟩:=walked hn h;obtain ⟨place,fix,hw,hF,k,hk⟩:=doms_all (a0:=a0) (a1:=a1) (a2:=a2) (a3:=a3) hs hn h;exact ⟨M',O,place,fix,h,hw,hO,hF,Ev.of (fS.mono a0 a1 a2 a3 l) hk⟩
end Go.Proofs.Ytbklmnieakefnaa.Q
namespace Go.Proofs.Ytbklmnieakefnaa.Q
open Go.RowKit Go.Proofs.YtbklmnieakefnaaW.PrintWords
set_option linter.unusedVariables false
structure RI (l : List S45) (M : List Bool) (S : List Int) (ex : Int → Prop) : Prop where
 len : M.length = l.length
 m0 : mt M 0 = true
 st : ∀ x ∈ S,0 ≤ x ∧ x < (l.length : Int) ∧ mt M x = true
 way : ∀ x,0 ≤ x → x < (l.length : Int) → mt M x = true → Way (succs l) l.length 0 x
 cl : ∀ x,0 ≤ x → x < (l.length : Int) → mt M x = true → ex x ∨ x ∈ S ∨ ∀ t ∈ succs l x,0 ≤ t → t < (l.length : Int) → mt M t = true
structure RB (l : List S45) (b : Int) (i : Nat) (M : List Bool) (S : List Int) : Prop where
 r : RI l M S (· = b)
 b0 : 0 ≤ b
 b1 : b < (l.length : Int)
 mb : mt M b = true
 some : ∀ t ∈ (succs l b).take i,0 ≤ t → t < (l.length : Int) → mt M t = true
def RSpec (l : List S45) (R : List Bool) : Prop:=R.length = l.length ∧ ∀ x,0 ≤ x → x < (l.length : Int) → (mt R x = true ↔ Way (succs l) l.length 0 x)
section
variable {l : List S45}
theorem RB.skip {b : Int} {i : Nat} {M : List Bool} {S : List Int} (h : RB l b i M S) (hi : i < (succs l b).length) (ht : 0 ≤ rd (succs l b) (i : Int) → rd (succs l b) (i : Int) < (l.length : Int) → mt M (rd (succs l b) (i : Int)) = true) : RB l b (i + 1) M S:=by
 refine ⟨h.r,h.b0,h.b1,h.mb,fun t hm t0 t1 => ?_⟩;rw [take_rd hi] at hm;rcases List.mem_append.1 hm with hm|hm
 · exact h.some t hm t0 t1
 · have:=List.mem_singleton.1 hm;subst this;exact ht t0 t1
theorem rd_mem {xs : List Int} {i : Nat} (h : i < xs.length) : rd xs (i : Int) ∈ xs:=by
 have e : rd xs (i : Int) = xs[i]:=by simp [rd,List.getD_eq_getElem?_getD,h]
 rw [e];exact List.getElem_mem h
theorem RB.push {b : Int} {i : Nat} {M : List Bool} {S : List Int} (h : RB l b i M S) (hi : i < (succs l b).length) (h0 : 0 ≤ rd (succs l b) (i : Int)) (h1 : rd (succs l b) (i : Int) < (l.length : Int)) :
 RB l b (i + 1) (M.set (rd (succs l b) (i : Int)).toNat true) (S ++ [rd (succs l b) (i : Int)]):=by
 have hm:=rd_mem hi;have ht:=take_rd hi;generalize rd (succs l b) (i : Int) = t at h0 h1 hm ht;have ms : ∀ x,0 ≤ x → mt (M.set t.toNat true) x = if x = t then true else mt M x:=fun x hx => mt_set h0 hx (by rw [h.r.len];omega)
 have up : ∀ x,0 ≤ x → mt M x = true → mt (M.set t.toNat true) x = true:=fun x hx h => by rw [ms x hx];split;rfl;exact h
 have wb:=h.r.way b h.b0 h.b1 h.mb;refine ⟨⟨by rw [List.length_set];exact h.r.len,up 0 (Int.le_refl _) h.r.m0,fun x hx => ?_,fun x x0 x1 hx => ?_,fun x x0 x1 hx => ?_⟩,h.b0,h.b1,up b h.b0 h.mb,fun y hy y0 y1 => ?_⟩
 · rcases List.mem_append.1 hx with hx|hx
   · have:=h.r.st x hx;exact ⟨this.1,this.2.1,up x this.1 this.2.2⟩
   · rw [List.mem_singleton.1 hx];exact ⟨h0,h1,by rw [ms t h0,if_pos rfl]⟩
 · rw [ms x x0] at hx
   split at hx
   · rename_i e
     rw [e];exact .step wb hm h0 h1
   · exact h.r.way x x0 x1 hx
 · rw [ms x x0] at hx
   split at hx
   · rename_i e
     exact .inr (.inl (by simp [e]))
   · rcases h.r.cl x x0 x1 hx with h2|h2|h2
     · exact .inl h2
     · exact .inr (.inl (List.mem_append_left _ h2))
     · exact .inr (.inr (fun y hy y0 y1 => up y y0 (h2 y hy y0 y1)))
 · rw [ht] at hy;rcases List.mem_append.1 hy with hy|hy
   · exact up y y0 (h.some y hy y0 y1)
   · rw [ms y y0,if_pos (List.mem_singleton.1 hy)]
theorem RB.done {b : Int} {M : List Bool} {S : List Int} (h : RB l b (succs l b).length M S) : RI l M S (fun _ => False):=by
 refine ⟨h.r.len,h.r.m0,h.r.st,h.r.way,fun x x0 x1 hx => ?_⟩;rcases h.r.cl x x0 x1 hx with h2|h2
 · refine .inr (.inr ?_);rw [h2];exact fun t ht => h.some t (by rw [List.take_length];exact ht)
 · exact .inr h2
theorem RI.pop {M : List Bool} {S : List Int} {b : Int} (h : RI l M (S ++ [b]) (fun _ => False)) : RB l b 0 M S:=by
 have hb:=h.st b (by simp);refine ⟨⟨h.len,h.m0,fun x hx => h.st x (List.mem_append_left _ hx),h.way,fun x x0 x1 hx => ?_⟩,hb.1,hb.2.1,hb.2.2,fun t ht => by simp at ht⟩;rcases h.cl x x0 x1 hx with h2|h2|h2
 · exact h2.elim
 · rcases List.mem_append.1 h2 with h2|h2
   · exact .inr (.inl h2)
   · exact .inl (List.mem_singleton.1 h2)
 · exact .inr (.inr h2)
theorem RI.spec {M : List Bool} (h : RI l M [] (fun _ => False)) : RSpec l M:=by
 refine ⟨h.len,fun x x0 x1 => ⟨h.way x x0 x1,fun hw => ?_⟩⟩;have : ∀ a x : Int,Way (succs l) l.length a x → a = 0 → 0 ≤ a → a < (l.length : Int) → mt M x = true ∧ 0 ≤ x ∧ x < (l.length : Int):=by
  intro a x hw ha a0 a1;induction hw with
  | here => rw [ha];exact ⟨h.m0,by omega,by omega⟩
  | @step b c r hc c0 c1 ih =>
   obtain ⟨i1,i2,i3⟩:=ih;rcases h.cl _ i2 i3 i1 with h2|h2|h2
   · exact h2.elim
   · exact (List.not_mem_nil h2).elim
   · exact ⟨h2 _ hc c0 c1,c0,c1⟩
 exact (this 0 x hw rfl (Int.le_refl _) (by omega)).1
theorem RI.first (hn : 0 < l.length) : RI l ((List.replicate l.length false).set 0 true) [0] (fun _ => False):=by
 have ms : ∀ x,0 ≤ x → mt ((List.replicate l.length false).set 0 true) x = if x = 0 then true else mt (List.replicate l.length false) x:=fun x hx => mt_set (t:=0) (Int.le_refl _) hx (by simpa using hn)
 have z : ∀ x : Int,mt (List.replicate l.length false) x = false:=fun x => by
  simp only [mt,rdOf,List.getD_eq_getElem?_getD,List.getElem?_replicate]
  split <;> rfl
 have e : ∀ x,0 ≤ x → mt ((List.replicate l.length false).set 0 true) x = true → x = 0:=fun x x0 hx => by
  rw [ms x x0,z] at hx
  split at hx
  · rename_i e;exact e
  · cases hx
 refine ⟨by simp,by rw [ms 0 (Int.le_refl _)];rfl,fun x hx => ?_,fun x x0 _ hx => ?_,fun x x0 _ hx => .inr (.inl (by simp [e x x0 hx]))⟩
 · rw [List.mem_singleton.1 hx];exact ⟨Int.le_refl _,by omega,by rw [ms 0 (Int.le_refl _)];rfl⟩
 · rw [e x x0 hx];exact .here
theorem cnt_first (hn : 0 < l.length) : 1 + cnt ((List.replicate l.length false).set 0 true) ≤ l.length:=by
 have e:=cnt_set (M:=List.replicate l.length false) (t:=0) (Int.le_refl _) (by simpa using hn) (by simp [mt,rdOf,List.getD_eq_getElem?_getD,hn]);rw [cnt_replicate] at e;simp only [Int.toNat_zero] at e;omega
theorem last_split : ∀ (S : List Int),S ≠ [] → ∃ T b,S = T ++ [b]:=fun S h => ⟨S.dropLast,S.getLast h,(List.dropLast_concat_getLast h).symm⟩
theorem wl {S : List Int} {b : Int} (h : S.length ≤ 1048576) : wrap64 (((S ++ [b]).length : Int) - 1) = (S.length : Int):=by
 rw [List.length_append,List.length_singleton];unfold wrap64;omega
variable {a0 : ByteArray} {a1 a2 a3 : Int}
theorem rr_l1 (hs : Small l) {m : Nat} (hm : m ≤ l.length) (ih : ∀ M S,RI l M S (fun _ => False) → S.length + cnt M ≤ m → ∃ R,Ev (fun k => fB.l0 k M S a0 a1 a2 a3 l) R ∧ RSpec l R) {b : Int} :
 ∀ (j i : Nat) (M : List Bool) (S : List Int),i + j = (succs l b).length → RB l b i M S → S.length + cnt M ≤ m → ∃ R,Ev (fun k => fB.l1 k M S b i a0 a1 a2 a3 l) R ∧ RSpec l R:=by
 have hl:=hs.1;have hr:=hs.row b;intro j;induction j with
 | zero =>
  intro i M S hi h hc;have e : i = (succs l b).length:=by omega
  subst e;obtain ⟨R,h1,h2⟩:=ih M S h.done hc;refine ⟨R,Ev.step (fun k => ?_) h1,h2⟩;rw [fB.l1,show (rd_T45 l b).f3 = succs l b from rfl,if_pos h.b0,if_pos h.b1,if_neg (by omega)]
 | succ j ihj =>
  intro i M S hi h hc;have hi' : i < (succs l b).length:=by omega
  by_cases c : 0 ≤ rd (succs l b) (i : Int) ∧ rd (succs l b) (i : Int) < (l.length : Int)
  · by_cases cm : rdOf false M (rd (succs l b) (i : Int)) = true
    · obtain ⟨R,h1,h2⟩:=ihj (i + 1) M S (by omega) (h.skip hi' (fun _ _ => cm)) hc;refine ⟨R,Ev.step (fun k => ?_) h1,h2⟩;rw [fB.l1,show (rd_T45 l b).f3 = succs l b from rfl,if_pos h.b0,if_pos h.b1,if_pos (by omega),if_pos (by omega),if_pos c.1,if_pos c.2,if_pos c.1,if_pos (by rw [h.r.len];exact c.2),if_pos cm,w64 (by omega)]
    · have e:=cnt_set c.1 (by rw [h.r.len];omega) (show mt M (rd (succs l b) (i : Int)) = false by simpa using cm);obtain ⟨R,h1,h2⟩:=ihj (i + 1) _ _ (by omega) (h.push hi' c.1 c.2) (by rw [List.length_append,List.length_singleton];omega);refine ⟨R,Ev.step (fun k => ?_) h1,h2⟩;rw [fB.l1,show (rd_T45 l b).f3 = succs l b from rfl,if_pos h.b0,if_pos h.b1,if_pos (by omega),if_pos (by omega),if_pos c.1,if_pos c.2,if_pos c.1,if_pos (by rw [h.r.len];exact c.2),if_neg cm,if_pos (by omega),w64 (by omega)]
  · obtain ⟨R,h1,h2⟩:=ihj (i + 1) M S (by omega) (h.skip hi' (fun c0 c1 => absurd ⟨c0,c1⟩ c)) hc;refine ⟨R,Ev.step (fun k => ?_) h1,h2⟩;rw [fB.l1,show (rd_T45 l b).f3 = succs l b from rfl,if_pos h.b0,if_pos h.b1,if_pos (by omega),if_pos (by omega),w64 (by omega)];by_cases c0 : rd (succs l b) (i : Int) ≥ 0
    · rw [if_pos c0,if_neg (fun c1 => c ⟨c0,c1⟩)]
    · rw [if_neg c0]
theorem rr_l0 (hs : Small l) : ∀ (m : Nat) (M : List Bool) (S : List Int),m ≤ l.length → RI l M S (fun _ => False) → S.length + cnt M ≤ m → ∃ R,Ev (fun k => fB.l0 k M S a0 a1 a2 a3 l) R ∧ RSpec l R:=by
 have hl:=hs.1;intro m;induction m with
 | zero =>
  intro M S _ h hc;have e : S = []:=List.eq_nil_of_length_eq_zero (by omega);subst e;exact ⟨M,Ev.step (f:=fun _ => some M) (fun k => by rw [fB.l0,if_neg (by simp)]) (Ev.now _),h.spec⟩
 | succ m ih =>
  intro M S hm h hc;by_cases e : S = []
  · subst e;exact ⟨M,Ev.step (f:=fun _ => some M) (fun k => by rw [fB.l0,if_neg (by simp)]) (Ev.now _),h.spec⟩
  · obtain ⟨T,b,rfl⟩:=last_split S e;rw [List.length_append,List.length_singleton] at hc;obtain ⟨R,h1,h2⟩:=rr_l1 (a0:=a0) (a1:=a1) (a2:=a2) (a3:=a3) hs (m:=m) (by omega) (fun M' S' => ih M' S' (by omega)) (succs l b).length 0 M T (by omega) h.pop (by omega);refine ⟨R,Ev.step (fun k => ?_) h1,h2⟩;have e2 : rd (T ++ [b]) (T.length : Int) = b:=by simp [rd,List.getD_eq_getElem?_getD]
    have eL : (((T ++ [b]).length : Nat) : Int) = (T.length : Int) + 1:=by simp
    have e3 : (T ++ [b]).take (T.length : Int).toNat = T:=by rw [Int.toNat_natCast];exact List.take_left
    rw [fB.l0,wl (by omega),if_pos (by omega),if_pos (by omega),if_pos (by omega),if_pos (by omega),e2,e3];rfl
theorem ev_rreached (hs : Small l) (hn : 0 < l.length) : ∃ R,Ev (fun k => fB.f k a0 a1 a2 a3 l) R ∧ RSpec l R:=by
 have hl:=hs.1;obtain ⟨R,h1,h2⟩:=rr_l0 (a0:=a0) (a1:=a1) (a2:=a2) (a3:=a3) hs l.length _ _ (Nat.le_refl _) (RI.first hn) (cnt_first hn);refine ⟨R,Ev.congr (fun k => ?_) h1,h2⟩;rw [fB.f,if_pos (by omega),if_pos (by omega),Option.bind_some,if_neg (by omega),Int.toNat_natCast,if_pos (by simp;omega)];rfl
theorem ir_l1 (hs : Small l) {m : Nat} (hm : m ≤ l.length) (ih : ∀ M S,RI l M S (fun _ => False) → S.length + cnt M ≤ m → ∃ R,Ev (fun k => fR.l0 k M S a0 a1 a2 a3 l) R ∧ RSpec l R) {b : Int} :
 ∀ (j i : Nat) (M : List Bool) (S : List Int),i + j = (succs l b).length → RB l b i M S → S.length + cnt M ≤ m → ∃ R,Ev (fun k => fR.l1 k M S (succs l b) ((succs l b).length : Int) i a0 a1 a2 a3 l) R ∧ RSpec l R:=by
 have hl:=hs.1;have hr:=hs.row b;intro j;induction j with
 | zero =>
  intro i M S hi h hc;have e : i = (succs l b).length:=by omega
  subst e;obtain ⟨R,h1,h2⟩:=ih M S h.done hc;refine ⟨R,Ev.step (fun k => ?_) h1,h2⟩;rw [fR.l1,if_neg (by omega)]
 | succ j ihj =>
  intro i M S hi h hc;have hi' : i < (succs l b).length:=by omega
  have hb1:=h.b1;have hb0:=h.b0;have hwn : wrap64 ((M.length : Int) - 1) = (l.length : Int) - 1:=by rw [h.r.len];unfold wrap64;omega
  by_cases c : 0 ≤ rd (succs l b) (i : Int) ∧ rd (succs l b) (i : Int) < (l.length : Int)
  · have hw : ir_within.f (rd (succs l b) (i : Int)) 0 ((l.length : Int) - 1) = some true:=by
     rw [ir_within.f,if_pos (by omega)];congr 1;exact decide_eq_true (by omega)
    by_cases cm : rdOf false M (rd (succs l b) (i : Int)) = true
    · obtain ⟨R,h1,h2⟩:=ihj (i + 1) M S (by omega) (h.skip hi' (fun _ _ => cm)) hc;refine ⟨R,Ev.step (fun k => ?_) h1,h2⟩;rw [fR.l1,if_pos (by omega),if_pos (by omega),if_pos (by omega),hwn,hw,Option.bind_some,if_pos rfl,if_pos c.1,if_pos (by rw [h.r.len];exact c.2),if_pos cm,w64 (by omega)]
    · have e:=cnt_set c.1 (by rw [h.r.len];omega) (show mt M (rd (succs l b) (i : Int)) = false by simpa using cm);obtain ⟨R,h1,h2⟩:=ihj (i + 1) _ _ (by omega) (h.push hi' c.1 c.2) (by rw [List.length_append,List.length_singleton];omega);refine ⟨R,Ev.step (fun k => ?_) h1,h2⟩;rw [fR.l1,if_pos (by omega),if_pos (by omega),if_pos (by omega),hwn,hw,Option.bind_some,if_pos rfl,if_pos c.1,if_pos (by rw [h.r.len];exact c.2),if_neg cm,if_pos (by omega),w64 (by omega)]
  · have hw : ir_within.f (rd (succs l b) (i : Int)) 0 ((l.length : Int) - 1) = some false:=by
     rw [ir_within.f];by_cases c0 : rd (succs l b) (i : Int) ≥ 0
     · rw [if_pos c0];congr 1;exact decide_eq_false (by omega)
     · rw [if_neg c0]
    obtain ⟨R,h1,h2⟩:=ihj (i + 1) M S (by omega) (h.skip hi' (fun c0 c1 => absurd ⟨c0,c1⟩ c)) hc;refine ⟨R,Ev.step (fun k => ?_) h1,h2⟩;rw [fR.l1,if_pos (by omega),if_pos (by omega),if_pos (by omega),hwn,hw,Option.bind_some,if_neg (by simp),w64 (by omega)]
theorem ir_l0 (hs : Small l) : ∀ (m : Nat) (M : List Bool) (S : List Int),m ≤ l.length → RI l M S (fun _ => False) → S.length + cnt M ≤ m → ∃ R,Ev (fun k => fR.l0 k M S a0 a1 a2 a3 l) R ∧ RSpec l R:=by
 have hl:=hs.1;intro m;induction m with
 | zero =>
  intro M S _ h hc;have e : S = []:=List.eq_nil_of_length_eq_zero (by omega);subst e;exact ⟨M,Ev.step (f:=fun _ => some M) (fun k => by rw [fR.l0,if_neg (by simp)]) (Ev.now _),h.spec⟩
 | succ m ih =>
  intro M S hm h hc;by_cases e : S = []
  · subst e;exact ⟨M,Ev.step (f:=fun _ => some M) (fun k => by rw [fR.l0,if_neg (by simp)]) (Ev.now _),h.spec⟩
  · obtain ⟨T,b,rfl⟩:=last_split S e;rw [List.length_append,List.length_singleton] at hc;have hb:=h.st b (by simp);obtain ⟨R,h1,h2⟩:=ir_l1 (a0:=a0) (a1:=a1) (a2:=a2) (a3:=a3) hs (m:=m) (by omega) (fun M' S' => ih M' S' (by omega)) (succs l b).length 0 M T (by omega) h.pop (by omega);refine ⟨R,Ev.step (fun k => ?_) h1,h2⟩;have e2 : rd (T ++ [b]) (T.length : Int) = b:=by simp [rd,List.getD_eq_getElem?_getD]
    have eL : (((T ++ [b]).length : Nat) : Int) = (T.length : Int) + 1:=by simp
    have e3 : (T ++ [b]).take (T.length : Int).toNat = T:=by rw [Int.toNat_natCast];exact List.take_left
    rw [fR.l0,wl (by omega),if_pos (by omega),if_pos (by omega),if_pos (by omega),e2,if_pos hb.1,if_pos hb.2.1,if_pos (by omega),e3];rfl
theorem ev_ireached (hs : Small l) (hn : 0 < l.length) : ∃ R,Ev (fun k => fR.f k a0 a1 a2 a3 l) R ∧ RSpec l R:=by
 have hl:=hs.1;obtain ⟨R,h1,h2⟩:=ir_l0 (a0:=a0) (a1:=a1) (a2:=a2) (a3:=a3) hs l.length _ _ (Nat.le_refl _) (RI.first hn) (cnt_first hn);refine ⟨R,Ev.congr (fun k => ?_) h1,h2⟩;rw [fR.f,if_pos (by omega),if_pos (by omega),Option.bind_some,Int.toNat_natCast,if_neg (by rw [List.length_replicate];omega),if_pos (by rw [List.length_replicate];omega)];rfl
variable {O place fix : List Int}
theorem way_mem (hw : Walked l O place) {x : Int} : Way (succs l) l.length 0 x ↔ x ∈ O:=by
 refine ⟨fun h => ?_,hw.way x⟩;have : ∀ a x : Int,Way (succs l) l.length a x → a ∈ O → x ∈ O:=by
  intro a x h ha;induction h with
  | here => exact ha
  | step r hc c0 c1 ih => exact hw.cl _ ih _ hc c0 c1
 exact this 0 x h hw.env.r0
theorem reach_mem (hw : Walked l O place) {R : List Bool} (h : RSpec l R) {x : Int} (x0 : 0 ≤ x) (x1 : x < (l.length : Int)) : mt R x = true ↔ x ∈ O:=by rw [h.2 x x0 x1,way_mem hw]
abbrev Fx (l : List S45) (O place fix : List Int) : Prop:=Fix (· ∈ O) place (Edge (succs l) O) (Must (succs l) l.length) fix
theorem tree_len (hw : Walked l O place) (hF : Fx l O place fix) : (fix.set 0 (-1)).length = l.length:=by rw [List.length_set,hF.len,hw.len]
theorem tree_zero (hw : Walked l O place) (hF : Fx l O place fix) : rd (fix.set 0 (-1)) 0 = -1:=by
 have : 0 < fix.length:=by
  have:=hw.rng 0 hw.env.r0;rw [hF.len,hw.len];omega
 simp [rd,List.getD_eq_getElem?_getD,this]
theorem tree_at {b : Int} (h0 : 0 ≤ b) (hb : b ≠ 0) : rd (fix.set 0 (-1)) b = rd fix b:=by
 have : (0 : Nat) ≠ b.toNat:=by omega
 simp [rd,List.getD_eq_getElem?_getD,this]
theorem up_zero {D : Int → Int} {a : Int} : Up D 0 a ↔ a = 0:=by
 refine ⟨fun h => ?_,fun h => by rw [h];exact .refl _⟩;cases h with
 | refl => rfl
 | step h _ => exact absurd rfl h
theorem up_step {D : Int → Int} {b a : Int} (hb : b ≠ 0) (hab : a ≠ b) : Up D b a ↔ Up D (D b) a :=
 ⟨fun h => (h.next (Ne.symm hab)).2,fun h => .step hb h⟩
end
end Go.Proofs.Ytbklmnieakefnaa.Q
namespace Go.Proofs.Ytbklmnieakefnaa.Q
open Go.RowKit Go.Proofs.YtbklmnieakefnaaW.PrintWords
set_option linter.unusedVariables false
section
variable {l : List S45} {O place fix : List Int} {a0 : ByteArray} {a1 a2 a3 : Int}
abbrev cutAt (l : List S45) (a : Int) : List S45:=l.set a.toNat (⟨([] : List (S59)),0,0,([] : List Int)⟩ : S45)
theorem succs_cut {a x : Int} (a0 : 0 ≤ a) (a1 : a < (l.length : Int)) (x0 : 0 ≤ x) : succs (cutAt l a) x = if x = a then [] else succs l x:=by
 unfold succs rd_T45 cutAt;rw [List.getD_eq_getElem?_getD,List.getD_eq_getElem?_getD,List.getElem?_set];by_cases h : x = a
 · subst h;have : x.toNat < l.length:=by omega
   simp [this]
 · have : a.toNat ≠ x.toNat:=by omega
   simp [h,this]
theorem cut_small (hs : Small l) (a : Int) : Small (cutAt l a):=by
 refine ⟨by rw [List.length_set];exact hs.1,fun y hy => ?_⟩;rcases List.mem_or_eq_of_mem_set hy with h|h
 · exact hs.2 y h
 · rw [h];exact Nat.zero_le _
theorem cut_way {a b : Int} (a0 : 0 < a) (a1 : a < (l.length : Int)) : (Way (succs (cutAt l a)) l.length 0 b ∧ b ≠ a) ↔ Avoid (succs l) l.length a b:=by
 constructor
 · rintro ⟨hw,hne⟩;have : ∀ x y : Int,Way (succs (cutAt l a)) l.length x y → x = 0 → y ≠ a → 0 ≤ y ∧ Avoid (succs l) l.length a y:=by
    intro x y h;induction h with
    | here => intro hx hy;rw [hx];exact ⟨Int.le_refl _,.zero (by omega)⟩
    | @step c d r hd d0 d1 ih =>
     intro hx hy;by_cases hc : c = a
     · subst hc;rw [succs_cut (by omega) a1 (by omega),if_pos rfl] at hd;simp at hd
     · obtain ⟨i1,i2⟩:=ih hx hc;rw [succs_cut (by omega) a1 i1,if_neg hc] at hd;exact ⟨d0,.step i2 hd d0 d1 hy⟩
   exact (this 0 b hw rfl hne).2
 · intro h;have : 0 ≤ b ∧ Way (succs (cutAt l a)) l.length 0 b ∧ b ≠ a:=by
    induction h with
    | zero h => exact ⟨Int.le_refl _,.here,h⟩
    | @step c d r hd d0 d1 hy ih =>
     exact ⟨d0,.step ih.2.1 (by rw [succs_cut (by omega) a1 ih.1,if_neg ih.2.2];exact hd) d0 d1,hy⟩
   exact this.2
theorem avoid_ne {g : Int → List Int} {n : Nat} {y x : Int} (h : Avoid g n y x) : y ≠ 0:=by
 induction h with
 | zero h => exact Ne.symm h
 | step _ _ _ _ _ ih => exact ih
theorem ev_without (hs : Small l) (hn : 0 < l.length) {a : Int} (ha0 : 0 ≤ a) (ha1 : a < (l.length : Int)) :
 ∃ R,Ev (fun k => fK.f k a0 a1 a2 a3 l a) R ∧ R.length = l.length ∧ ∀ x,0 ≤ x → x < (l.length : Int) → (mt R x = true ↔ Avoid (succs l) l.length a x):=by
 have hl:=hs.1;by_cases c : a = 0
 · refine ⟨List.replicate l.length false,Ev.congr (f:=fun _ => some (List.replicate l.length false)) (fun k => ?_) (Ev.now _),by simp,fun x x0 x1 => ?_⟩
   · rw [fK.f];simp only [Option.bind_some];rw [if_pos (by simp;omega),if_pos (by omega),if_pos (by omega),if_pos c,Int.toNat_natCast]
   · have h1 : mt (List.replicate l.length false) x = false:=by
      simp only [mt,rdOf,List.getD_eq_getElem?_getD,List.getElem?_replicate]
      split <;> rfl
     rw [h1];refine ⟨fun h => (by cases h),fun h => ?_⟩;exact absurd c (avoid_ne h)
 · have hs2:=cut_small hs a;have hlen : (cutAt l a).length = l.length:=List.length_set;obtain ⟨R,r1,r2⟩:=ev_rreached (l:=cutAt l a) (a0:=⟨#[]⟩) (a1:=0) (a2:=0) (a3:=0) hs2 (by rw [hlen];exact hn);have hRl : R.length = l.length:=by rw [r2.1,hlen]
   refine ⟨R.set a.toNat false,Ev.congr (f:=fun k => (fB.f k (⟨#[]⟩ : ByteArray) 0 0 0 (cutAt l a)).bind fun t367 => if a < (t367.length : Int) then some (t367.set a.toNat false) else none) (fun k => ?_) (Ev.bind r1 ?_),by rw [List.length_set];exact hRl,fun x x0 x1 => ?_⟩
   · rw [fK.f];simp only [Option.bind_some,List.nil_append];rw [if_pos (by simp;omega),if_pos (by omega),if_pos (by omega),if_neg c,if_neg (by omega),if_pos ha0,if_pos ha1]
   · have : a < (R.length : Int):=by omega
     simp only [if_pos this];exact Ev.now _
   · rw [← cut_way (by omega) ha1];have hx : mt (R.set a.toNat false) x = if x = a then false else mt R x:=by
      unfold mt rdOf;rw [List.getD_eq_getElem?_getD,List.getD_eq_getElem?_getD,List.getElem?_set];by_cases h : x = a
      · subst h;have : x.toNat < R.length:=by omega
        simp [this]
      · have : a.toNat ≠ x.toNat:=by omega
        simp [h,this]
     have h2:=r2.2 x x0 (by rw [hlen];exact x1);rw [hlen] at h2;rw [hx];by_cases h : x = a
     · rw [if_pos h];exact ⟨fun h => (by cases h),fun h' => absurd h h'.2⟩
     · rw [if_neg h,h2];exact ⟨fun h' => ⟨h',h⟩,fun h' => h'.1⟩
def TSpec (l : List S45) (O : List Int) (T : List (List Bool)) : Prop:=T.length = l.length ∧ ∀ a,0 ≤ a → a < (l.length : Int) → (rd_L11 T a).length = l.length ∧ ∀ b,0 ≤ b → b < (l.length : Int) → (mt (rd_L11 T a) b = true ↔ a ∈ O ∧ b ∈ O ∧ Must (succs l) l.length a b)
theorem must_self {g : Int → List Int} {n : Nat} {a : Int} : Must g n a a:=fun h => by
 have : ∀ x y : Int,Avoid g n y x → x ≠ y:=fun x y h => by
  cases h with
  | zero h => exact h
  | step _ _ _ _ hy => exact hy
 exact this a a h rfl
theorem mt_setb {M : List Bool} {t x : Int} {v : Bool} (ht : 0 ≤ t) (hx : 0 ≤ x) (hl : t.toNat < M.length) : mt (M.set t.toNat v) x = if x = t then v else mt M x:=by
 unfold mt rdOf;rw [List.getD_eq_getElem?_getD,List.getD_eq_getElem?_getD,List.getElem?_set];by_cases h : x = t
 · subst h;simp [hl]
 · have : t.toNat ≠ x.toNat:=by omega
   simp [h,this]
theorem L11_last {T : List (List Bool)} {v : List Bool} {x : Int} (hx : 0 ≤ x) : rd_L11 (T ++ [v]) x = if x = (T.length : Int) then v else rd_L11 T x:=by
 unfold rd_L11;rw [List.getD_eq_getElem?_getD,List.getD_eq_getElem?_getD];by_cases h : x = (T.length : Int)
 · subst h;simp
 · rw [if_neg h];by_cases h2 : x < (T.length : Int)
   · rw [List.getElem?_append_left (by omega)]
   · rw [List.getElem?_eq_none (by simp;omega),List.getElem?_eq_none (by omega)]
def TInv (l : List S45) (O : List Int) (i : Nat) (T : List (List Bool)) : Prop:=T.length = i ∧ ∀ a,0 ≤ a → a < (i : Int) → (rd_L11 T a).length = l.length ∧ ∀ b,0 ≤ b → b < (l.length : Int) → (mt (rd_L11 T a) b = true ↔ a ∈ O ∧ b ∈ O ∧ Must (succs l) l.length a b)
theorem table_l1 (hs : Small l) (hn : l.length ≤ 1048576) (hw : Walked l O place) {R W : List Bool} (hR : RSpec l R) {i : Nat} (hi : i < l.length) (hWl : W.length = l.length) (hW : ∀ x,0 ≤ x → x < (l.length : Int) → (mt W x = true ↔ Avoid (succs l) l.length i x)) {T : List (List Bool)} (hT : TInv l O i T)
 (next : ∀ T',TInv l O (i + 1) T' → ∃ T2,Ev (fun k => fE.l0 k T' R ((i + 1 : Nat) : Int) a0 a1 a2 a3 l) T2 ∧ TSpec l O T2) :
 ∀ (j m : Nat) (V : List Bool),m + j = l.length → V.length = l.length → (∀ b,0 ≤ b → b < (m : Int) → (mt V b = true ↔ (i : Int) ∈ O ∧ b ∈ O ∧ Must (succs l) l.length i b)) →
  ∃ T2,Ev (fun k => fE.l1 k T R i W V m a0 a1 a2 a3 l) T2 ∧ TSpec l O T2:=by
 have hi2 : (i : Int) < (l.length : Int):=by omega
 have hRi:=reach_mem hw hR (show 0 ≤ (i : Int) by omega) hi2;intro j;induction j with
 | zero =>
  intro m V hm hV hb;have e : m = l.length:=by omega
  subst e;obtain ⟨T2,t1,t2⟩:=next (T ++ [V]) ⟨by simp [hT.1],fun a h0 h1 => by
   rw [L11_last h0,hT.1];by_cases c : a = (i : Int)
   · rw [if_pos c,c];exact ⟨hV,hb⟩
   · rw [if_neg c];exact hT.2 a h0 (by omega)⟩
  refine ⟨T2,Ev.step (fun k => ?_) t1,t2⟩;rw [fE.l1,if_neg (by omega),if_pos (by rw [hT.1];omega),w64 (by omega)]
 | succ j ih =>
  intro m V hm hV hb;have hm2 : (m : Int) < (l.length : Int):=by omega
  have hRm:=reach_mem hw hR (show 0 ≤ (m : Int) by omega) hm2;have hWm:=hW (m : Int) (by omega) hm2;have fin : ∀ v : Bool,(v = true ↔ (i : Int) ∈ O ∧ (m : Int) ∈ O ∧ Must (succs l) l.length i m) → ∃ T2,Ev (fun k => fE.l1 k T R i W (V.set (m : Int).toNat v) ((m + 1 : Nat) : Int) a0 a1 a2 a3 l) T2 ∧ TSpec l O T2:=fun v hv =>
   ih (m + 1) (V.set (m : Int).toNat v) (by omega) (by rw [List.length_set];exact hV) (fun b b0 b1 => by
    rw [mt_setb (by omega) b0 (by omega)];by_cases c : b = (m : Int)
    · rw [if_pos c,c];exact hv
    · rw [if_neg c];exact hb b b0 (by omega))
  have q1 : (i : Int) < (R.length : Int):=by rw [hR.1];exact hi2
  have q2 : (m : Int) < (R.length : Int):=by rw [hR.1];exact hm2
  have q3 : (m : Int) < (V.length : Int):=by rw [hV];exact hm2
  have q4 : (m : Int) < (W.length : Int):=by rw [hWl];exact hm2
  have z1 : 0 ≤ (i : Int):=by omega
  have z2 : 0 ≤ (m : Int):=by omega
  by_cases ci : (i : Int) ∈ O
  · have c1 : rdOf false R (i : Int) = true:=hRi.2 ci;by_cases cm : (m : Int) ∈ O
    · have c2 : rdOf false R (m : Int) = true:=hRm.2 cm;by_cases ce : (i : Int) = (m : Int)
      · obtain ⟨T2,t1,t2⟩:=fin true ⟨fun _ => ⟨ci,cm,by rw [ce];exact must_self⟩,fun _ => rfl⟩;refine ⟨T2,Ev.step (fun k => ?_) t1,t2⟩;rw [fE.l1,if_pos hm2,if_pos z1,if_pos q1,if_pos c1,if_pos z2,if_pos q2,if_pos c2,if_pos ce,if_pos q3,w64 (by omega)]
      · obtain ⟨T2,t1,t2⟩:=fin (!(rdOf false W (m : Int))) (by
         have : (!(rdOf false W (m : Int))) = true ↔ ¬ (mt W (m : Int) = true):=by simp [mt]
         rw [this,hWm];exact ⟨fun h => ⟨ci,cm,h⟩,fun h => h.2.2⟩)
        refine ⟨T2,Ev.step (fun k => ?_) t1,t2⟩;rw [fE.l1,if_pos hm2,if_pos z1,if_pos q1,if_pos c1,if_pos z2,if_pos q2,if_pos c2,if_neg ce,if_pos q4,if_pos q3,w64 (by omega)]
    · have c2 : ¬ rdOf false R (m : Int) = true:=fun h => cm (hRm.1 h)
      obtain ⟨T2,t1,t2⟩:=fin false ⟨fun h => (by cases h),fun h => absurd h.2.1 cm⟩;refine ⟨T2,Ev.step (fun k => ?_) t1,t2⟩;rw [fE.l1,if_pos hm2,if_pos z1,if_pos q1,if_pos c1,if_pos z2,if_pos q2,if_neg c2,if_pos q3,w64 (by omega)]
  · have c1 : ¬ rdOf false R (i : Int) = true:=fun h => ci (hRi.1 h)
    obtain ⟨T2,t1,t2⟩:=fin false ⟨fun h => (by cases h),fun h => absurd h.1 ci⟩;refine ⟨T2,Ev.step (fun k => ?_) t1,t2⟩;rw [fE.l1,if_pos hm2,if_pos z1,if_pos q1,if_neg c1,if_pos z2,if_pos q3,w64 (by omega)]
theorem table_l0 (hs : Small l) (hn0 : 0 < l.length) (hw : Walked l O place) {R : List Bool} (hR : RSpec l R) : ∀ (j i : Nat) (T : List (List Bool)),i + j = l.length → TInv l O i T → ∃ T2,Ev (fun k => fE.l0 k T R i a0 a1 a2 a3 l) T2 ∧ TSpec l O T2:=by
 have hn:=hs.1;intro j;induction j with
 | zero =>
  intro i T hi hT;have e : i = l.length:=by omega
  subst e;exact ⟨T,Ev.step (f:=fun _ => some T) (fun k => by rw [fE.l0,if_neg (by omega)]) (Ev.now _),hT.1,hT.2⟩
 | succ j ih =>
  intro i T hi hT;have hi2 : (i : Int) < (l.length : Int):=by omega
  obtain ⟨W,w1,w2,w3⟩:=ev_without (a0:=a0) (a1:=a1) (a2:=a2) (a3:=a3) hs hn0 (show 0 ≤ (i : Int) by omega) hi2;obtain ⟨T2,t1,t2⟩:=table_l1 (a0:=a0) (a1:=a1) (a2:=a2) (a3:=a3) hs hn hw hR (by omega) w2 w3 hT (fun T' h' => ih (i + 1) T' (by omega) h') l.length 0 (List.replicate l.length false) (by omega) (by simp) (fun b b0 b1 => by omega);refine ⟨T2,Ev.step (f:=fun k => (fK.f k a0 a1 a2 a3 l i).bind fun t378 => if 0 ≤ (l.length : Int) then (if ((l.length : Int)).toNat ≤ 281474976710656 then fE.l1 k T R i t378 (List.replicate ((l.length : Int)).toNat false) 0 a0 a1 a2 a3 l else none) else none) (fun k => ?_) (Ev.bind w1 ?_),t2⟩
  · rw [fE.l0,if_pos hi2]
  · have z1 : 0 ≤ (l.length : Int):=by omega
    have z2 : l.length ≤ 281474976710656:=by omega
    simp only [if_pos z1,Int.toNat_natCast,if_pos z2];exact t1
theorem ev_table (hs : Small l) (hn : 0 < l.length) (hw : Walked l O place) : ∃ T,Ev (fun k => fE.f k a0 a1 a2 a3 l) T ∧ TSpec l O T:=by
 obtain ⟨R,r1,r2⟩:=ev_rreached (a0:=a0) (a1:=a1) (a2:=a2) (a3:=a3) hs hn;obtain ⟨T,t1,t2⟩:=table_l0 (a0:=a0) (a1:=a1) (a2:=a2) (a3:=a3) hs hn hw r2 l.length 0 [] (by omega) ⟨rfl,fun a h0 h1 => by omega⟩;exact ⟨T,Ev.congr (fun k => by rw [fE.f]) (Ev.bind r1 t1),t2⟩
theorem up_line {D : Int → Int} {x y z : Int} (h : Up D x y) (k : Up D x z) : Up D y z ∨ Up D z y:=by
 induction h with
 | refl => exact .inl k
 | @step x y h0 r ih =>
  cases k with
  | refl => exact .inr (.step h0 r)
  | step _ k2 => exact ih k2
theorem up_anti (hw : Walked l O place) (hF : Fx l O place fix) {x y : Int} (hx : x ∈ O) (hy : y ∈ O) (h : Up (rd fix) x y) (k : Up (rd fix) y x) : x = y:=by
 have h1:=h.facts hF.inv.w hx (hF.told x hx);have h2:=k.facts hF.inv.w hy (hF.told y hy);exact h1.2.2.2 (by have:=h1.2.2.1;have:=h2.2.2.1;omega)
end
end Go.Proofs.Ytbklmnieakefnaa.Q
namespace Go.Proofs.Ytbklmnieakefnaa.Q
open Go.RowKit Go.Proofs.YtbklmnieakefnaaW.PrintWords
set_option linter.unusedVariables false
def ints (n : Nat) : List Int:=(List.range n).map (fun (i : Nat) => (i : Int))
theorem ints_succ (n : Nat) : ints (n + 1) = ints n ++ [(n : Int)]:=by simp [ints,List.range_succ]
theorem mem_ints {n : Nat} {x : Int} : x ∈ ints n ↔ 0 ≤ x ∧ x < (n : Int):=by
 simp only [ints,List.mem_map,List.mem_range];constructor
 · rintro ⟨i,hi,rfl⟩;omega
 · intro h;exact ⟨x.toNat,by omega,by omega⟩
theorem ints_len (n : Nat) : (ints n).length = n:=by simp [ints]
def Latch (l : List S45) (O : List Int) (h p : Int) : Prop:=p ∈ O ∧ h ∈ succs l p ∧ Must (succs l) l.length h p
inductive Bk (l : List S45) (O : List Int) (h : Int) : Int → Prop
 | latch {p} (hl : Latch l O h p) : Bk l O h p
 | step {b p} (r : Bk l O h b) (hb : b ≠ h) (hp : p ∈ O) (he : b ∈ succs l p) : Bk l O h p
def InL (l : List S45) (O : List Int) (h b : Int) : Prop:=b = h ∨ Bk l O h b
noncomputable def pick (P : Int → Prop) (n : Nat) : List Int:=(ints n).filter (fun b => @decide (P b) (Classical.propDecidable _))
theorem pick_yes {P : Int → Prop} {n : Nat} (h : P (n : Int)) : pick P (n + 1) = pick P n ++ [(n : Int)]:=by
 unfold pick;rw [ints_succ,List.filter_append];simp [h]
theorem pick_no {P : Int → Prop} {n : Nat} (h : ¬ P (n : Int)) : pick P (n + 1) = pick P n:=by
 unfold pick;rw [ints_succ,List.filter_append];simp [h]
theorem mem_pick {P : Int → Prop} {n : Nat} {x : Int} : x ∈ pick P n ↔ (0 ≤ x ∧ x < (n : Int)) ∧ P x:=by
 unfold pick;rw [List.mem_filter,mem_ints];simp
theorem pick_zero {P : Int → Prop} : pick P 0 = []:=by simp [pick,ints]
theorem pick_len {P : Int → Prop} (n : Nat) : (pick P n).length ≤ n:=by
 have:=List.length_filter_le (fun b => @decide (P b) (Classical.propDecidable _)) (ints n);rw [ints_len] at this;exact this
theorem Bk.mem {l : List S45} {O : List Int} {h b : Int} (k : Bk l O h b) : b ∈ O:=by
 cases k with
 | latch hl => exact hl.1
 | step _ _ hp _ => exact hp
section
variable {l : List S45} {O place fix : List Int}
structure DI (l : List S45) (O : List Int) (h : Int) (M : List Bool) (S : List Int) (ex : Int → Prop) : Prop where
 len : M.length = l.length
 st : ∀ x ∈ S,0 ≤ x ∧ x < (l.length : Int) ∧ mt M x = true ∧ x ≠ h
 ok : ∀ x,0 ≤ x → x < (l.length : Int) → mt M x = true → InL l O h x
 cl : ∀ x,0 ≤ x → x < (l.length : Int) → mt M x = true → x = h ∨ ex x ∨ x ∈ S ∨ ∀ p,p ∈ O → x ∈ succs l p → mt M p = true
 la : ∀ p,Latch l O h p → mt M p = true
 mh : mt M h = true
structure DB (l : List S45) (O : List Int) (h : Int) (b : Int) (row : List Int) (i : Nat) (M : List Bool) (S : List Int) : Prop where
 d : DI l O h M S (· = b)
 b0 : 0 ≤ b
 b1 : b < (l.length : Int)
 mb : mt M b = true
 bh : b ≠ h
 some : ∀ p ∈ row.take i,p ∈ O → mt M p = true
theorem DB.skip {h b : Int} {row : List Int} {i : Nat} {M : List Bool} {S : List Int} (k : DB l O h b row i M S) (hi : i < row.length) (ht : rd row (i : Int) ∈ O → mt M (rd row (i : Int)) = true) : DB l O h b row (i + 1) M S:=by
 refine ⟨k.d,k.b0,k.b1,k.mb,k.bh,fun t hm ho => ?_⟩;rw [take_rd hi] at hm;rcases List.mem_append.1 hm with hm|hm
 · exact k.some t hm ho
 · have:=List.mem_singleton.1 hm;subst this;exact ht ho
theorem DB.done {X : List (List Int)} (hX : PSpec l X) (hw : Walked l O place) {h b : Int} {M : List Bool} {S : List Int} (k : DB l O h b (rd_L1 X b) (rd_L1 X b).length M S) : DI l O h M S (fun _ => False):=by
 refine ⟨k.d.len,k.d.st,k.d.ok,fun x x0 x1 hx => ?_,k.d.la,k.d.mh⟩;rcases k.d.cl x x0 x1 hx with h2|h2|h2
 · exact .inl h2
 · refine .inr (.inr (.inr (fun p hp he => ?_)));rw [h2] at he;refine k.some p ?_ hp;rw [List.take_length];exact ((hX.2 b k.b0 k.b1).2 p).2 ⟨(hw.rng p hp).1,(hw.rng p hp).2,he⟩
 · exact .inr (.inr h2)
variable {a0 : ByteArray} {a1 a2 a3 : Int} {D : List Int} {R : List Bool} {X : List (List Int)}
structure LI (l : List S45) (O : List Int) (h : Int) (row : List Int) (i : Nat) (M : List Bool) (S : List Int) (is : Bool) : Prop where
 len : M.length = l.length
 met : ∀ x,0 ≤ x → x < (l.length : Int) → (mt M x = true ↔ x = h ∨ (x ∈ row.take i ∧ Latch l O h x))
 st : ∀ x ∈ S,0 ≤ x ∧ x < (l.length : Int) ∧ mt M x = true ∧ x ≠ h
 all : ∀ x,0 ≤ x → x < (l.length : Int) → mt M x = true → x = h ∨ x ∈ S
 is : is = true ↔ ∃ p ∈ row.take i,Latch l O h p
 num : S.length + cnt M ≤ l.length
theorem LI.add (hw : Walked l O place) {h : Int} {row : List Int} {i : Nat} {M : List Bool} {S : List Int} {is : Bool} (k : LI l O h row i M S is) (hi : i < row.length) (hy : Latch l O h (rd row (i : Int))) (hm : mt M (rd row (i : Int)) = false) (h0 : 0 ≤ h) (h1 : h < (l.length : Int)) :
 LI l O h row (i + 1) (M.set (rd row (i : Int)).toNat true) (S ++ [rd row (i : Int)]) true:=by
 have ht:=take_rd hi;have hrg:=hw.rng _ hy.1;generalize rd row (i : Int) = t at hy hm ht hrg;have ms : ∀ x,0 ≤ x → mt (M.set t.toNat true) x = if x = t then true else mt M x:=fun x hx => mt_set hrg.1 hx (by rw [k.len];omega)
 have up : ∀ x,0 ≤ x → mt M x = true → mt (M.set t.toNat true) x = true:=fun x hx h => by rw [ms x hx];split;rfl;exact h
 have th : t ≠ h:=fun e => by rw [e,(k.met h h0 h1).2 (.inl rfl)] at hm;cases hm
 have e:=cnt_set hrg.1 (by rw [k.len];omega) hm;refine ⟨by rw [List.length_set];exact k.len,fun x x0 x1 => ?_,fun x hx => ?_,fun x x0 x1 hx => ?_,⟨fun _ => ⟨t,by rw [ht];simp,hy⟩,fun _ => rfl⟩,by rw [List.length_append,List.length_singleton];have:=k.num;omega⟩
 · rw [ms x x0,ht,List.mem_append,List.mem_singleton];by_cases e : x = t
   · rw [if_pos e];exact ⟨fun _ => .inr ⟨.inr e,e ▸ hy⟩,fun _ => rfl⟩
   · rw [if_neg e,k.met x x0 x1];constructor
     · rintro (h|h)
       · exact .inl h
       · exact .inr ⟨.inl h.1,h.2⟩
     · rintro (h | ⟨h|h,h2⟩)
       · exact .inl h
       · exact .inr ⟨h,h2⟩
       · exact absurd h e
 · rcases List.mem_append.1 hx with hx|hx
   · have:=k.st x hx;exact ⟨this.1,this.2.1,up x this.1 this.2.2.1,this.2.2.2⟩
   · rw [List.mem_singleton.1 hx];exact ⟨hrg.1,hrg.2,by rw [ms t hrg.1,if_pos rfl],th⟩
 · rw [ms x x0] at hx
   split at hx
   · rename_i e;exact .inr (by simp [e])
   · exact (k.all x x0 x1 hx).imp id (List.mem_append_left _)
end
end Go.Proofs.Ytbklmnieakefnaa.Q
namespace Go.Proofs.Ytbklmnieakefnaa.Q
open Go.RowKit Go.Proofs.YtbklmnieakefnaaW.PrintWords
set_option linter.unusedVariables false
def Fr (l : List S45) (O : List Int) (a b : Int) : Prop:=(∃ p,p ∈ O ∧ b ∈ succs l p ∧ a ∈ O ∧ Must (succs l) l.length a p) ∧ b ∈ O ∧ (a = b ∨ ¬ (a ∈ O ∧ b ∈ O ∧ Must (succs l) l.length a b))
def FSt (l : List S45) (O : List Int) (b : Nat) (S : Int → Prop) (X : List (List Int)) : Prop :=
 X.length = l.length ∧ ∀ a,0 ≤ a → a < (l.length : Int) → (S a → rd_L1 X a = pick (Fr l O a) b ++ [(b : Int)]) ∧ (¬ S a → rd_L1 X a = pick (Fr l O a) b)
def Cn (fix : List Int) (b a : Int) : Prop:=b = 0 ∨ (Up (rd fix) a (rd fix b) ∧ a ≠ rd fix b)
theorem rd_last {xs : List Int} {v : Int} : rd (xs ++ [v]) ((xs.length : Nat) : Int) = v:=by simp [rd,List.getD_eq_getElem?_getD]
section
variable {l : List S45} {O place fix : List Int} {R : List Bool} {P X : List (List Int)} {res : List (List Int)}
theorem FSt.congr {b : Nat} {S S' : Int → Prop} (h : FSt l O b S X) (e : ∀ a,0 ≤ a → a < (l.length : Int) → (S a ↔ S' a)) : FSt l O b S' X :=
 ⟨h.1,fun a a0 a1 => ⟨fun hs => (h.2 a a0 a1).1 ((e a a0 a1).2 hs),fun hn => (h.2 a a0 a1).2 (fun hs => hn ((e a a0 a1).1 hs))⟩⟩
theorem FSt.put {b : Nat} {S : Int → Prop} (h : FSt l O b S X) {r : Int} (r0 : 0 ≤ r) (r1 : r < (l.length : Int)) (hn : ¬ S r) : FSt l O b (fun a => S a ∨ a = r) (X.set r.toNat (rd_L1 X r ++ [(b : Int)])):=by
 refine ⟨by rw [List.length_set];exact h.1,fun a a0 a1 => ?_⟩;rw [L1_set r0 a0 (by rw [h.1];omega)];by_cases e : a = r
 · subst e;rw [if_pos rfl,(h.2 a a0 a1).2 hn];exact ⟨fun _ => rfl,fun h' => absurd (.inr rfl) h'⟩
 · rw [if_neg e];exact ⟨fun hs => (h.2 a a0 a1).1 (hs.resolve_right e),fun h' => (h.2 a a0 a1).2 (fun hs => h' (.inl hs))⟩
theorem FSt.len {b : Nat} {S : Int → Prop} (h : FSt l O b S X) {r : Int} (r0 : 0 ≤ r) (r1 : r < (l.length : Int)) : (rd_L1 X r).length ≤ b + 1:=by
 have hp:=pick_len (P:=Fr l O r) b;by_cases c : S r
 · rw [(h.2 r r0 r1).1 c,List.length_append,List.length_singleton];omega
 · rw [(h.2 r r0 r1).2 c];omega
theorem fr_l2 (hs : Small l) (hw : Walked l O place) (hF : Fx l O place fix) {b : Nat} (hb : b < l.length) (hbO : (b : Int) ∈ O) {row : List Int} {i : Nat} :
 ∀ (m : Nat) (r : Int) (S : Int → Prop) (X : List (List Int)),r ∈ O → ((O.length : Int) - rd place r).toNat ≤ m → ((b : Int) ≠ 0 → Up (rd fix) r (rd fix b)) → FSt l O b S X →
  (∀ X',FSt l O b (fun a => S a ∨ (Up (rd fix) r a ∧ Cn fix b a)) X' → Ev (fun k => order_Frontiers.l1 k X' (fix.set 0 (-1)) R P b (l.length : Int) b row (row.length : Int) (wrap64 ((i : Int) + 1))) res) →
  Ev (fun k => order_Frontiers.l2 k X (fix.set 0 (-1)) R P b r (l.length : Int) b row (row.length : Int) i) res:=by
 have hl:=hs.1;have z0 : 0 ≤ (b : Int):=Int.natCast_nonneg b;have z1 : (b : Int) < (l.length : Int):=by omega
 have q1 : (b : Int) < ((fix.set 0 (-1)).length : Int):=by rw [tree_len hw hF];exact z1
 intro m;induction m with
 | zero =>
  intro r S X hr hm;have:=hw.lay.lim r hr;omega
 | succ m ih =>
  intro r S X hr hm hup hX next
  have hrg:=hw.rng r hr;have q2 : r < ((fix.set 0 (-1)).length : Int):=by rw [tree_len hw hF];exact hrg.2
  have q3 : r < (X.length : Int):=by rw [hX.1];exact hrg.2
  by_cases cd : r = rd (fix.set 0 (-1)) (b : Int)
  · have b0 : (b : Int) ≠ 0:=fun e => by rw [e,tree_zero hw hF] at cd;omega
    have cd2 : r = rd fix (b : Int):=by rw [cd,tree_at z0 b0]
    refine Ev.step (f:=fun k => order_Frontiers.j3 k X (fix.set 0 (-1)) R P b r (l.length : Int) b row (row.length : Int) i false) (fun k => by rw [order_Frontiers.l2,if_pos z0,if_pos q1,if_pos cd]) (Ev.step (fun k => by rw [order_Frontiers.j3,if_neg (by simp)]) (next X (hX.congr (fun a a0 a1 => ⟨.inl,fun h => ?_⟩))));rcases h with h | ⟨h1,h2⟩
    · exact h
    · rcases h2 with h2|h2
      · exact absurd h2 b0
      · have f1:=h1.facts hF.inv.w hr (hF.told r hr);rw [← cd2] at h2;exact absurd (up_anti hw hF f1.1 hr h2.1 h1) h2.2
  · have hcr : Cn fix b r:=by
     by_cases b0 : (b : Int) = 0
     · exact .inl b0
     · exact .inr ⟨hup b0,fun e => cd (by rw [tree_at z0 b0];exact e)⟩
    have go : ∀ X',FSt l O b (fun a => S a ∨ a = r) X' → Ev (fun k => order_Frontiers.l2 k X' (fix.set 0 (-1)) R P b (rd (fix.set 0 (-1)) r) (l.length : Int) b row (row.length : Int) i) res:=by
     intro X' hX';by_cases r0 : r = 0
     · have b0 : (b : Int) = 0:=Classical.byContradiction fun b0 => by
        have h1:=hup b0;rw [r0] at h1;have:=up_zero.1 h1;exact cd (by rw [tree_at z0 b0,this,r0])
       have e1 : rd (fix.set 0 (-1)) (b : Int) = -1:=by rw [b0];exact tree_zero hw hF
       have e2 : rd (fix.set 0 (-1)) r = -1:=by rw [r0];exact tree_zero hw hF
       rw [e2];refine Ev.step (f:=fun k => order_Frontiers.j3 k X' (fix.set 0 (-1)) R P b (-1) (l.length : Int) b row (row.length : Int) i false) (fun k => by rw [order_Frontiers.l2,if_pos z0,if_pos q1,e1,if_pos rfl]) (Ev.step (fun k => by rw [order_Frontiers.j3,if_neg (by simp)]) (next X' (hX'.congr (fun a a0 a1 => or_congr Iff.rfl ?_))));rw [r0];exact ⟨fun h => ⟨up_zero.2 h,.inl b0⟩,fun h => up_zero.1 h.1⟩
     · rw [tree_at hrg.1 r0];obtain ⟨w1,w2,w3⟩:=hF.inv.w.up r hr r0 (hF.told r hr);have l1:=hw.lay.lim _ w1;refine ih (rd fix r) _ X' w1 (by omega) (fun b0 => ?_) hX' (fun X2 h2 => next X2 (h2.congr (fun a a0 a1 => ?_)))
       · exact ((hup b0).next (fun e => cd (by rw [tree_at z0 b0];exact e))).2
       · constructor
         · rintro ((h|h)|h)
           · exact .inl h
           · rw [h];exact .inr ⟨.refl _,hcr⟩
           · exact .inr ⟨.step r0 h.1,h.2⟩
         · rintro (h | ⟨h,hc⟩)
           · exact .inl (.inl h)
           · by_cases e : a = r
             · exact .inl (.inr e)
             · exact .inr ⟨(up_step r0 e).1 h,hc⟩
    have hlen:=hX.len hrg.1 hrg.2;have hsz : (rd_L1 X r).length < 17592186044416:=by omega
    have body : Ev (fun k => order_Frontiers.j3 k X (fix.set 0 (-1)) R P b r (l.length : Int) b row (row.length : Int) i true) res:=by
     by_cases hS : S r
     · have hrow:=(hX.2 r hrg.1 hrg.2).1 hS;have hln : (rd_L1 X r).length = (pick (Fr l O r) b).length + 1:=by rw [hrow,List.length_append,List.length_singleton]
       have e1 : wrap64 (((rd_L1 X r).length : Int) - 1) = ((pick (Fr l O r) b).length : Int):=by rw [hln];unfold wrap64;omega
       have e2 : rd (rd_L1 X r) ((pick (Fr l O r) b).length : Int) = (b : Int):=by rw [hrow];exact rd_last
       refine Ev.step (fun k => ?_) (go X (hX.congr (fun a a0 a1 => ⟨.inl,fun h => h.elim id (fun e => e ▸ hS)⟩)));rw [order_Frontiers.j3,if_pos rfl,if_pos hrg.1,if_pos q3,if_neg (by omega),e1,if_pos (by omega),if_pos (by omega),if_pos e2,if_pos q2]
     · have hrow:=(hX.2 r hrg.1 hrg.2).2 hS;have g2:=go _ (hX.put hrg.1 hrg.2 hS);by_cases ce : ((rd_L1 X r).length : Int) = 0
       · refine Ev.step (fun k => ?_) g2;rw [order_Frontiers.j3,if_pos rfl,if_pos hrg.1,if_pos q3,if_pos ce,if_pos hsz,if_pos q2]
       · have e1 : wrap64 (((rd_L1 X r).length : Int) - 1) = (((rd_L1 X r).length - 1 : Nat) : Int):=by unfold wrap64;omega
         have hne : rd (rd_L1 X r) ((((rd_L1 X r).length - 1 : Nat)) : Int) ≠ (b : Int):=by
          have hmem:=rd_mem (xs:=rd_L1 X r) (i:=(rd_L1 X r).length - 1) (by omega);rw [hrow] at hmem ⊢;have:=(mem_pick.1 hmem).1.2;omega
         refine Ev.step (fun k => ?_) g2;rw [order_Frontiers.j3,if_pos rfl,if_pos hrg.1,if_pos q3,if_neg ce,e1,if_pos (by omega),if_pos (by omega),if_neg hne,if_pos hsz,if_pos q2]
    refine Ev.step (fun k => ?_) body;rw [order_Frontiers.l2,if_pos z0,if_pos q1,if_neg cd,decide_eq_true hrg.1]
theorem fr_l1 (hs : Small l) (hw : Walked l O place) (hF : Fx l O place fix) (hR : RSpec l R) (hP : PSpec l P) {b : Nat} (hb : b < l.length) (hbO : (b : Int) ∈ O)
 (next : ∀ X,FSt l O b (fun a => ∃ p,p ∈ O ∧ (b : Int) ∈ succs l p ∧ Up (rd fix) p a ∧ Cn fix b a) X → Ev (fun k => order_Frontiers.l0 k X (fix.set 0 (-1)) R P (l.length : Int) ((b + 1 : Nat) : Int)) res) :
 ∀ (j i : Nat) (X : List (List Int)),i + j = (rd_L1 P b).length → FSt l O b (fun a => ∃ p ∈ (rd_L1 P b).take i,p ∈ O ∧ Up (rd fix) p a ∧ Cn fix b a) X →
  Ev (fun k => order_Frontiers.l1 k X (fix.set 0 (-1)) R P b (l.length : Int) b (rd_L1 P b) ((rd_L1 P b).length : Int) i) res:=by
 have hl:=hs.1;have z0 : 0 ≤ (b : Int):=Int.natCast_nonneg b;have z1 : (b : Int) < (l.length : Int):=by omega
 have hPb:=hP.2 (b : Int) z0 z1;have hlen:=hPb.1;intro j;induction j with
 | zero =>
  intro i X hi hX;have e : i = (rd_L1 P b).length:=by omega
  subst e;refine Ev.step (fun k => ?_) (next X (hX.congr (fun a a0 a1 => ?_)))
  · rw [order_Frontiers.l1,if_neg (by omega),w64 (by omega)]
  · rw [List.take_length];constructor
    · rintro ⟨p,hp,ho,h⟩;exact ⟨p,ho,((hPb.2 p).1 hp).2.2,h⟩
    · rintro ⟨p,ho,he,h⟩;exact ⟨p,(hPb.2 p).2 ⟨(hw.rng p ho).1,(hw.rng p ho).2,he⟩,ho,h⟩
 | succ j ih =>
  intro i X hi hX;have hi' : i < (rd_L1 P b).length:=by omega
  have hmem:=(hPb.2 _).1 (rd_mem hi');have hRm:=reach_mem hw hR hmem.1 hmem.2.1;have tk:=take_rd hi';have w1 : wrap64 ((i : Int) + 1) = ((i + 1 : Nat) : Int):=w62 (by omega);have q1 : (i : Int) < ((rd_L1 P b).length : Int):=by omega
  have q2 : rd (rd_L1 P b) (i : Int) < (R.length : Int):=by rw [hR.1];exact hmem.2.1
  have zi : 0 ≤ (i : Int):=Int.natCast_nonneg i;by_cases cr : rdOf false R (rd (rd_L1 P b) (i : Int)) = true
  · have hO:=hRm.1 cr;refine Ev.step (fun k => by rw [order_Frontiers.l1,if_pos q1,if_pos zi,if_pos q1,if_pos hmem.1,if_pos q2,if_pos cr]) (fr_l2 hs hw hF hb hbO _ (rd (rd_L1 P b) (i : Int)) _ X hO (Nat.le_refl _) (fun b0 => ?_) hX (fun X' hX' => ?_))
    · exact (hF.best b hbO b0).c _ ⟨hO,hbO,hmem.2.2⟩ (hF.told _ hO)
    · rw [w1];refine ih (i + 1) X' (by omega) (hX'.congr (fun a a0 a1 => ?_));rw [tk];constructor
      · rintro (⟨p,hp,h⟩|h)
        · exact ⟨p,List.mem_append_left _ hp,h⟩
        · exact ⟨_,by simp,hO,h⟩
      · rintro ⟨p,hp,h⟩;rcases List.mem_append.1 hp with hp|hp
        · exact .inl ⟨p,hp,h⟩
        · rw [List.mem_singleton.1 hp] at h;exact .inr h.2
  · refine Ev.step (fun k => ?_) (ih (i + 1) X (by omega) (hX.congr (fun a a0 a1 => ?_)))
    · rw [order_Frontiers.l1,if_pos q1,if_pos zi,if_pos q1,if_pos hmem.1,if_pos q2,if_neg cr,w1]
    · rw [tk];constructor
      · rintro ⟨p,hp,h⟩;exact ⟨p,List.mem_append_left _ hp,h⟩
      · rintro ⟨p,hp,h⟩;rcases List.mem_append.1 hp with hp|hp
        · exact ⟨p,hp,h⟩
        · rw [List.mem_singleton.1 hp] at h;exact absurd (hRm.2 h.1) cr
theorem fr_is (hw : Walked l O place) (hF : Fx l O place fix) {b : Int} (hbO : b ∈ O) {a : Int} : (∃ p,p ∈ O ∧ b ∈ succs l p ∧ Up (rd fix) p a ∧ Cn fix b a) ↔ Fr l O a b:=by
 constructor
 · rintro ⟨p,hp,he,hu,hc⟩;have ha:=(hu.facts hF.inv.w hp (hF.told p hp)).1;refine ⟨⟨p,hp,he,ha,(up_iff hw hF hp).1 hu⟩,hbO,?_⟩;by_cases e : a = b
   · exact .inl e
   · refine .inr (fun hm => ?_);have hub:=(up_iff hw hF hbO).2 hm.2.2;obtain ⟨b0,h2⟩:=hub.next (Ne.symm e);rcases hc with hc|hc
     · exact b0 hc
     · have w1:=(hF.inv.w.up b hbO b0 (hF.told b hbO)).1;exact hc.2 (up_anti hw hF ha w1 hc.1 h2)
 · rintro ⟨⟨p,hp,he,ha,hm⟩,_,hc⟩;have hu:=(up_iff hw hF hp).2 hm;refine ⟨p,hp,he,hu,?_⟩;by_cases b0 : b = 0
   · exact .inl b0
   · have hbest:=(hF.best b hbO b0).c p ⟨hp,hbO,he⟩ (hF.told p hp);obtain ⟨w1,w2,w3⟩:=hF.inv.w.up b hbO b0 (hF.told b hbO);have no : ¬ Up (rd fix) (rd fix b) a:=fun h => by
      rcases hc with hc|hc
      · rw [hc] at h;have:=(h.facts hF.inv.w w1 w3).2.2.1;omega
      · exact hc ⟨ha,hbO,(up_iff hw hF hbO).1 (.step b0 h)⟩
     rcases up_line hu hbest with h|h
     · exact .inr ⟨h,fun e => no (by rw [e];exact .refl _)⟩
     · exact absurd h no
theorem FSt.next {b : Nat} {S : Int → Prop} (h : FSt l O b S X) (e : ∀ a,0 ≤ a → a < (l.length : Int) → (S a ↔ Fr l O a b)) : FSt l O (b + 1) (fun _ => False) X:=by
 refine ⟨h.1,fun a a0 a1 => ⟨fun h' => h'.elim,fun _ => ?_⟩⟩;by_cases c : S a
 · rw [(h.2 a a0 a1).1 c,pick_yes ((e a a0 a1).1 c)]
 · rw [(h.2 a a0 a1).2 c,pick_no (fun h' => c ((e a a0 a1).2 h'))]
noncomputable def frl (l : List S45) (O : List Int) : List (List Int):=(ints l.length).map (fun a => pick (Fr l O a) l.length)
theorem frl_len (l : List S45) (O : List Int) : (frl l O).length = l.length:=by unfold frl;rw [List.length_map,ints_len]
theorem FSt.all (h : FSt l O l.length (fun _ => False) X) : X = frl l O:=by
 refine List.ext_getElem (by rw [h.1,frl_len]) (fun i h1 h2 => ?_);have hi : i < l.length:=by rw [← h.1];exact h1
 have e : rd_L1 X (i : Int) = X[i]:=by simp [rd_L1,List.getD_eq_getElem?_getD,h1]
 rw [← e,(h.2 (i : Int) (Int.natCast_nonneg i) (by omega)).2 id];simp [frl,ints]
theorem fr_l0 (hs : Small l) (hw : Walked l O place) (hF : Fx l O place fix) (hR : RSpec l R) (hP : PSpec l P) : ∀ (j b : Nat) (X : List (List Int)),b + j = l.length → FSt l O b (fun _ => False) X →
 Ev (fun k => order_Frontiers.l0 k X (fix.set 0 (-1)) R P (l.length : Int) b) (frl l O):=by
 have hl:=hs.1;intro j;induction j with
 | zero =>
  intro b X hb hX;have e : b = l.length:=by omega
  subst e;rw [← hX.all];exact Ev.step (f:=fun _ => some X) (fun k => by rw [order_Frontiers.l0,if_neg (by omega)]) (Ev.now _)
 | succ j ih =>
  intro b X hb hX;have z1 : (b : Int) < (l.length : Int):=by omega
  have z0 : 0 ≤ (b : Int):=Int.natCast_nonneg b;have hRm:=reach_mem hw hR z0 z1;have q1 : (b : Int) < (R.length : Int):=by rw [hR.1];exact z1
  by_cases cr : rdOf false R (b : Int) = true
  · have hbO:=hRm.1 cr;refine Ev.step (fun k => ?_) (fr_l1 hs hw hF hR hP (show b < l.length by omega) hbO (fun X' hX' => ih (b + 1) X' (by omega) (hX'.next (fun a a0 a1 => fr_is hw hF hbO))) (rd_L1 P b).length 0 X (by omega) (hX.congr (fun a a0 a1 => ⟨False.elim,fun ⟨p,hp,_⟩ => by simp at hp⟩)));rw [order_Frontiers.l0,if_pos z1,if_pos z0,if_pos q1,if_pos cr,if_pos (by rw [hP.1];exact z1)];rfl
  · refine Ev.step (fun k => ?_) (ih (b + 1) X (by omega) (hX.next (fun a a0 a1 => ⟨False.elim,fun h => cr (hRm.2 h.2.1)⟩)));rw [order_Frontiers.l0,if_pos z1,if_pos z0,if_pos q1,if_neg cr,w64 (by omega)]
theorem first_rows (l : List S45) (O : List Int) : FSt l O 0 (fun _ => False) (List.replicate l.length []):=by
 refine ⟨by simp,fun a a0 a1 => ⟨fun h => h.elim,fun _ => ?_⟩⟩;rw [pick_zero];simp only [rd_L1,List.getD_eq_getElem?_getD,List.getElem?_replicate]
 split <;> rfl
theorem ev_front {a0 : ByteArray} {a1 a2 a3 : Int} (hs : Small l) (hn : 0 < l.length) (hw : Walked l O place) (hF : Fx l O place fix) (hD : Ev (fun k => fS.f k a0 a1 a2 a3 l) (fix.set 0 (-1))) : Ev (fun k => order_Frontiers.f k a0 a1 a2 a3 l) (frl l O):=by
 obtain ⟨R,r1,r2⟩:=ev_ireached (a0:=a0) (a1:=a1) (a2:=a2) (a3:=a3) hs hn;obtain ⟨kX,P,hP,hPs⟩:=preds_all (a0:=a0) (a1:=a1) (a2:=a2) (a3:=a3) hs;have hl:=hs.1;have h0:=fr_l0 hs hw hF r2 hPs l.length 0 _ (by omega) (first_rows l O);refine Ev.congr (fun k => by rw [order_Frontiers.f,if_pos (by omega),if_pos (by omega),Int.toNat_natCast]) (Ev.bind hD (Ev.bind r1 (Ev.bind (Ev.of (fQ.mono a0 a1 a2 a3 l) hP) h0)))
end
end Go.Proofs.Ytbklmnieakefnaa.Q
namespace Go.Proofs.Ytbklmnieakefnaa.Q
open Go.RowKit Go.Proofs.YtbklmnieakefnaaW.PrintWords
set_option linter.unusedVariables false
section
variable {l : List S45} {O place fix : List Int} {a0 : ByteArray} {a1 a2 a3 : Int} {T : List (List Bool)} {R : List Bool} {P X : List (List Int)} {res : List (List Int)}
def GSt (l : List S45) (O : List Int) (a b : Nat) (X : List (List Int)) : Prop :=
 X.length = l.length ∧ ∀ x,0 ≤ x → x < (l.length : Int) → rd_L1 X x = if x < (a : Int) then pick (Fr l O x) l.length else if x = (a : Int) then pick (Fr l O x) b else []
theorem GSt.next {a : Nat} (h : GSt l O a l.length X) : GSt l O (a + 1) 0 X:=by
 refine ⟨h.1,fun x x0 x1 => ?_⟩;rw [h.2 x x0 x1];by_cases c : x < (a : Int)
 · rw [if_pos c,if_pos (by omega)]
 · rw [if_neg c];by_cases e : x = (a : Int)
   · rw [if_pos e,if_pos (by omega)]
   · rw [if_neg e,if_neg (by omega)]
     split
     · rw [pick_zero]
     · rfl
theorem GSt.no {a b : Nat} (h : GSt l O a b X) (hn : ¬ Fr l O a b) : GSt l O a (b + 1) X:=by
 refine ⟨h.1,fun x x0 x1 => ?_⟩;rw [h.2 x x0 x1];by_cases c : x < (a : Int)
 · rw [if_pos c,if_pos c]
 · rw [if_neg c,if_neg c];by_cases e : x = (a : Int)
   · rw [if_pos e,if_pos e,e,pick_no hn]
   · rw [if_neg e,if_neg e]
theorem GSt.yes {a b : Nat} (ha : a < l.length) (h : GSt l O a b X) (hy : Fr l O a b) : GSt l O a (b + 1) (X.set (a : Int).toNat (rd_L1 X a ++ [(b : Int)])):=by
 have z0 : 0 ≤ (a : Int):=Int.natCast_nonneg a;refine ⟨by rw [List.length_set];exact h.1,fun x x0 x1 => ?_⟩;rw [L1_set z0 x0 (by rw [h.1];omega)];by_cases e : x = (a : Int)
 · subst e;rw [if_pos rfl,if_neg (by omega),if_pos rfl,pick_yes hy,h.2 _ x0 x1,if_neg (by omega),if_pos rfl]
 · rw [if_neg e,h.2 x x0 x1];by_cases c : x < (a : Int)
   · rw [if_pos c,if_pos c]
   · rw [if_neg c,if_neg c,if_neg e,if_neg e]
def Sm (l : List S45) (O : List Int) (a : Int) (row : List Int) (i : Nat) : Prop:=∃ p ∈ row.take i,p ∈ O ∧ a ∈ O ∧ Must (succs l) l.length a p
theorem Sm.succ {a : Int} {row : List Int} {i : Nat} (hi : i < row.length) : Sm l O a row (i + 1) ↔ Sm l O a row i ∨ (rd row (i : Int) ∈ O ∧ a ∈ O ∧ Must (succs l) l.length a (rd row (i : Int))):=by
 unfold Sm;rw [take_rd hi];constructor
 · rintro ⟨p,hp,h⟩;rcases List.mem_append.1 hp with hp|hp
   · exact .inl ⟨p,hp,h⟩
   · rw [List.mem_singleton.1 hp] at h;exact .inr h
 · rintro (⟨p,hp,h⟩|h)
   · exact ⟨p,List.mem_append_left _ hp,h⟩
   · exact ⟨_,by simp,h⟩
theorem rf_l2 (hs : Small l) (hw : Walked l O place) (hT : TSpec l O T) (hR : RSpec l R) (hP : PSpec l P) {a b : Nat} (ha : a < l.length) (hb : b < l.length) (hX : GSt l O a b X)
 (next : ∀ X',GSt l O a (b + 1) X' → Ev (fun k => crucibleref17_Frontiers.l1 k T R P X' a ((b + 1 : Nat) : Int) a0 a1 a2 a3 l) res) :
 ∀ (j i : Nat) (so : Bool),i + j = (rd_L1 P b).length → (so = true ↔ Sm l O a (rd_L1 P b) i) → Ev (fun k => crucibleref17_Frontiers.l2 k T R P X a b so i a0 a1 a2 a3 l) res:=by
 have hl:=hs.1;have z0 : 0 ≤ (b : Int):=Int.natCast_nonneg b;have z1 : (b : Int) < (l.length : Int):=by omega
 have y0 : 0 ≤ (a : Int):=Int.natCast_nonneg a;have y1 : (a : Int) < (l.length : Int):=by omega
 have hPb:=hP.2 (b : Int) z0 z1;have hTa:=hT.2 (a : Int) y0 y1;have hlen:=hPb.1;have q1 : (b : Int) < (P.length : Int):=by rw [hP.1];exact z1
 have q2 : (b : Int) < (R.length : Int):=by rw [hR.1];exact z1
 have q3 : (a : Int) < (X.length : Int):=by rw [hX.1];exact y1
 have q4 : (a : Int) < (T.length : Int):=by rw [hT.1];exact y1
 have q5 : (b : Int) < ((rd_L11 T a).length : Int):=by rw [hTa.1];exact z1
 have hRb:=reach_mem hw hR z0 z1;have hTb:=hTa.2 (b : Int) z0 z1;have wb : wrap64 ((b : Int) + 1) = ((b + 1 : Nat) : Int):=w64 (by omega);have hsz : (rd_L1 X a).length < 17592186044416:=by
  have:=pick_len (P:=Fr l O (a : Int)) b;rw [hX.2 _ y0 y1,if_neg (by omega),if_pos rfl];omega
 intro j;induction j with
 | zero =>
  intro i so hi hso;have e : i = (rd_L1 P b).length:=by omega
  subst e;have hsm : Sm l O a (rd_L1 P b) (rd_L1 P b).length ↔ ∃ p,p ∈ O ∧ (b : Int) ∈ succs l p ∧ (a : Int) ∈ O ∧ Must (succs l) l.length a p:=by
   unfold Sm;rw [List.take_length];exact ⟨fun ⟨p,hp,h1,h2⟩ => ⟨p,h1,((hPb.2 p).1 hp).2.2,h2⟩,fun ⟨p,h1,he,h2⟩ => ⟨p,(hPb.2 p).2 ⟨(hw.rng p h1).1,(hw.rng p h1).2,he⟩,h1,h2⟩⟩
  have nq : ¬ (((rd_L1 P b).length : Nat) : Int) < ((rd_L1 P b).length : Int):=by omega
  cases so with
  | false =>
   have hn : ¬ Fr l O a b:=fun h => by have:=hso.2 (hsm.2 h.1);cases this
   exact Ev.step (fun k => by rw [crucibleref17_Frontiers.l2,if_pos z0,if_pos q1,if_neg nq,if_neg (by simp),wb]) (next X (hX.no hn))
  | true =>
   have hs1:=hsm.1 (hso.1 rfl);by_cases cr : rdOf false R (b : Int) = true
   · have hbO:=hRb.1 cr;by_cases ce : (a : Int) = (b : Int)
     · exact Ev.step (fun k => by rw [crucibleref17_Frontiers.l2,if_pos z0,if_pos q1,if_neg nq,if_pos rfl,if_pos q2,if_pos cr,if_pos ce,if_pos y0,if_pos q3,if_pos hsz,wb]) (next _ (hX.yes ha ⟨hs1,hbO,.inl ce⟩))
     · by_cases ct : rdOf false (rd_L11 T a) (b : Int) = true
       · have hn : ¬ Fr l O a b:=fun h => h.2.2.elim ce (fun h' => h' (hTb.1 ct))
         exact Ev.step (fun k => by rw [crucibleref17_Frontiers.l2,if_pos z0,if_pos q1,if_neg nq,if_pos rfl,if_pos q2,if_pos cr,if_neg ce,if_pos y0,if_pos q4,if_pos q5,if_pos ct,wb]) (next X (hX.no hn))
       · exact Ev.step (fun k => by rw [crucibleref17_Frontiers.l2,if_pos z0,if_pos q1,if_neg nq,if_pos rfl,if_pos q2,if_pos cr,if_neg ce,if_pos y0,if_pos q4,if_pos q5,if_neg ct,if_pos q3,if_pos hsz,wb]) (next _ (hX.yes ha ⟨hs1,hbO,.inr (fun h' => ct (hTb.2 h'))⟩))
   · have hn : ¬ Fr l O a b:=fun h => cr (hRb.2 h.2.1)
     exact Ev.step (fun k => by rw [crucibleref17_Frontiers.l2,if_pos z0,if_pos q1,if_neg nq,if_pos rfl,if_pos q2,if_neg cr,wb]) (next X (hX.no hn))
 | succ j ih =>
  intro i so hi hso;have hi' : i < (rd_L1 P b).length:=by omega
  have hmem:=(hPb.2 _).1 (rd_mem hi');have hRm:=reach_mem hw hR hmem.1 hmem.2.1;have hTm:=hTa.2 _ hmem.1 hmem.2.1;have w1 : wrap64 ((i : Int) + 1) = ((i + 1 : Nat) : Int):=w62 (by omega);have qi : (i : Int) < ((rd_L1 P b).length : Int):=by omega
  have zi : 0 ≤ (i : Int):=Int.natCast_nonneg i;have q6 : rd (rd_L1 P b) (i : Int) < (R.length : Int):=by rw [hR.1];exact hmem.2.1
  have q7 : rd (rd_L1 P b) (i : Int) < ((rd_L11 T a).length : Int):=by rw [hTa.1];exact hmem.2.1
  cases so with
  | true =>
   exact Ev.step (fun k => by rw [crucibleref17_Frontiers.l2,if_pos z0,if_pos q1,if_pos qi,if_pos rfl,w1]) (ih (i + 1) true (by omega) ⟨fun _ => (Sm.succ hi').2 (.inl (hso.1 rfl)),fun _ => rfl⟩)
  | false =>
   have hno : ¬ Sm l O a (rd_L1 P b) i:=fun h => by have:=hso.2 h;cases this
   by_cases cr : rdOf false R (rd (rd_L1 P b) (i : Int)) = true
   · refine Ev.step (fun k => by rw [crucibleref17_Frontiers.l2,if_pos z0,if_pos q1,if_pos qi,if_neg (by simp),if_pos zi,if_pos hmem.1,if_pos q6,if_pos cr,if_pos y0,if_pos q4,if_pos q7,w1]) (ih (i + 1) _ (by omega) ?_);rw [Sm.succ hi'];refine Iff.trans hTm ⟨fun h => .inr ⟨h.2.1,h.1,h.2.2⟩,fun h => ?_⟩;rcases h with h|h
     · exact absurd h hno
     · exact ⟨h.2.1,h.1,h.2.2⟩
   · refine Ev.step (fun k => by rw [crucibleref17_Frontiers.l2,if_pos z0,if_pos q1,if_pos qi,if_neg (by simp),if_pos zi,if_pos hmem.1,if_pos q6,if_neg cr,w1]) (ih (i + 1) false (by omega) ?_);rw [Sm.succ hi'];refine ⟨fun h => (by cases h),fun h => ?_⟩;rcases h with h|h
     · exact absurd h hno
     · exact absurd (hRm.2 h.1) cr
theorem rf_l1 (hs : Small l) (hw : Walked l O place) (hT : TSpec l O T) (hR : RSpec l R) (hP : PSpec l P) {a : Nat} (ha : a < l.length)
 (next : ∀ X',GSt l O (a + 1) 0 X' → Ev (fun k => crucibleref17_Frontiers.l0 k T R P X' ((a + 1 : Nat) : Int) a0 a1 a2 a3 l) res) :
 ∀ (j b : Nat) (X : List (List Int)),b + j = l.length → GSt l O a b X → Ev (fun k => crucibleref17_Frontiers.l1 k T R P X a b a0 a1 a2 a3 l) res:=by
 have hl:=hs.1;intro j;induction j with
 | zero =>
  intro b X hb hX;have e : b = l.length:=by omega
  subst e;exact Ev.step (fun k => by rw [crucibleref17_Frontiers.l1,if_neg (by omega),w64 (by omega)]) (next X hX.next)
 | succ j ih =>
  intro b X hb hX;have h2:=rf_l2 (a0:=a0) (a1:=a1) (a2:=a2) (a3:=a3) hs hw hT hR hP ha (show b < l.length by omega) hX (fun X' h' => ih (b + 1) X' (by omega) h') (rd_L1 P b).length 0 false (by omega) ⟨fun h => (by cases h),fun ⟨p,hp,_⟩ => by simp at hp⟩;exact Ev.step (fun k => by rw [crucibleref17_Frontiers.l1,if_pos (by omega)];rfl) h2
theorem rf_l0 (hs : Small l) (hw : Walked l O place) (hT : TSpec l O T) (hR : RSpec l R) (hP : PSpec l P) : ∀ (j a : Nat) (X : List (List Int)),a + j = l.length → GSt l O a 0 X →
 Ev (fun k => crucibleref17_Frontiers.l0 k T R P X a a0 a1 a2 a3 l) (frl l O):=by
 have hl:=hs.1;intro j;induction j with
 | zero =>
  intro a X ha hX;have e : a = l.length:=by omega
  subst e;have hF : FSt l O l.length (fun _ => False) X:=⟨hX.1,fun x x0 x1 => ⟨fun h => h.elim,fun _ => by rw [hX.2 x x0 x1,if_pos x1]⟩⟩
  rw [← hF.all];exact Ev.step (f:=fun _ => some X) (fun k => by rw [crucibleref17_Frontiers.l0,if_neg (by omega)]) (Ev.now _)
 | succ j ih =>
  intro a X ha hX;exact Ev.step (fun k => by rw [crucibleref17_Frontiers.l0,if_pos (by omega)];rfl) (rf_l1 (a0:=a0) (a1:=a1) (a2:=a2) (a3:=a3) hs hw hT hR hP (show a < l.length by omega) (fun X' h' => ih (a + 1) X' (by omega) h') l.length 0 X (by omega) hX)
theorem ev_rfront (hs : Small l) (hn : 0 < l.length) (hw : Walked l O place) : Ev (fun k => crucibleref17_Frontiers.f k a0 a1 a2 a3 l) (frl l O):=by
 obtain ⟨T,t1,t2⟩:=ev_table (a0:=a0) (a1:=a1) (a2:=a2) (a3:=a3) hs hn hw;obtain ⟨R,r1,r2⟩:=ev_rreached (a0:=a0) (a1:=a1) (a2:=a2) (a3:=a3) hs hn;obtain ⟨P,x1,x2⟩:=ev_rpreds (a0:=a0) (a1:=a1) (a2:=a2) (a3:=a3) hs;have hl:=hs.1;have h0:=rf_l0 (a0:=a0) (a1:=a1) (a2:=a2) (a3:=a3) hs hw t2 r2 x2 l.length 0 (List.replicate l.length []) (by omega) ⟨by simp,fun x x0 x1 => by
  rw [if_neg (by omega),pick_zero];simp only [rd_L1,List.getD_eq_getElem?_getD,List.getElem?_replicate]
  split <;> split <;> rfl⟩
 refine Ev.congr (fun k => by rw [crucibleref17_Frontiers.f]) (Ev.bind t1 (Ev.bind r1 (Ev.bind x1 ?_)));refine Ev.congr (fun k => ?_) h0;show crucibleref17_Frontiers.g k a0 a1 a2 a3 l T R P = _
 rw [crucibleref17_Frontiers.g,if_pos (by omega),if_pos (by omega),Int.toNat_natCast];rfl
end
end Go.Proofs.Ytbklmnieakefnaa.Q
namespace Go.Proofs.Ytbklmnieakefnaa.Q
open Go.RowKit Go.Proofs.YtbklmnieakefnaaW.PrintWords
set_option linter.unusedVariables false
theorem front_none {a0 : ByteArray} {a1 a2 a3 : Int} : Ev (fun k => order_Frontiers.f k a0 a1 a2 a3 []) []:=by
 have h1 : Ev (fun k => fS.f k a0 a1 a2 a3 []) []:=Ev.of (fS.mono a0 a1 a2 a3 []) (k:=1) (by rw [fS.f,fD.f];simp [doms_place]);have h2 : Ev (fun k => fR.f k a0 a1 a2 a3 []) []:=Ev.congr (f:=fun _ => some []) (fun k => by rw [fR.f];simp) (Ev.now _);have h3 : Ev (fun k => fQ.f k a0 a1 a2 a3 []) []:=Ev.of (fQ.mono a0 a1 a2 a3 []) (k:=1) (by rw [fQ.f];simp [fQ.l0]);have h4 : Ev (fun k => order_Frontiers.l0 k [] [] [] [] 0 0) []:=Ev.step (f:=fun _ => some []) (fun k => by rw [order_Frontiers.l0];simp) (Ev.now _);refine Ev.congr (fun k => by rw [order_Frontiers.f]) ?_;simp only [List.length_nil,Int.toNat_natCast,List.replicate_zero]
 simpa using Ev.bind h1 (Ev.bind h2 (Ev.bind h3 h4))
theorem lists_l0 {xs : List (List Int)} (hx : xs.length ≤ 1048576) (hr : ∀ i : Nat,(rd_L1 xs (i : Int)).length ≤ 4611686018427387904) : ∀ (j i : Nat),i + j = xs.length → Ev (fun k => cruciblelaw17_lists.l0 k xs xs i) true:=by
 intro j;induction j with
 | zero =>
  intro i hi;exact Ev.step (f:=fun _ => some true) (fun k => by rw [cruciblelaw17_lists.l0,if_neg (by omega)]) (Ev.now _)
 | succ j ih =>
  intro i hi;have q : (i : Int) < (xs.length : Int):=by omega
  refine Ev.step (fun k => by rw [cruciblelaw17_lists.l0,if_pos q,if_pos (by omega),if_pos q,w64 (by omega)]) (Ev.bind (ev_same (hr i)) ?_);simp only [if_true];exact ih (i + 1) (by omega)
theorem ev_lists {l : List S45} {O : List Int} (hn : l.length ≤ 1048576) : Ev (fun k => cruciblelaw17_lists.f k (frl l O) (frl l O)) true:=by
 have hl:=frl_len l O;refine Ev.congr (fun k => by rw [cruciblelaw17_lists.f,if_pos rfl];rfl) (lists_l0 (xs:=frl l O) (by omega) (fun i => ?_) (frl l O).length 0 (by omega));by_cases c : i < (frl l O).length
 · have e : rd_L1 (frl l O) (i : Int) ∈ frl l O:=by
    unfold rd_L1;rw [List.getD_eq_getElem?_getD,Int.toNat_natCast,List.getElem?_eq_getElem c];exact List.getElem_mem c
   generalize rd_L1 (frl l O) (i : Int) = row at e;unfold frl at e;obtain ⟨a,_,e⟩:=List.mem_map.1 e;rw [← e];have:=pick_len (P:=Fr l O a) l.length;omega
 · unfold rd_L1;rw [List.getD_eq_getElem?_getD,Int.toNat_natCast,List.getElem?_eq_none (by omega)];exact Nat.zero_le _
theorem OrderFrontiers_pure (s : ByteArray) (i1 i2 i3 : Int) (l : List S45) (h : l.length ≤ 1048576) (h2 : ∀ y ∈ l,y.f3.length ≤ 1048576) : ∃ k,cruciblelaw17_OrderFrontiers.f k s i1 i2 i3 l = some true:=by
 have hs0 : Small l:=⟨h,h2⟩
 have hs:=bare_small hs0;obtain ⟨t,m1,m2⟩:=ev_may hs bare_code;refine Ev.rounds (g:=fun k => cruciblelaw17_OrderFrontiers.f k s i1 i2 i3 l) (Ev.congr (fun k => by rw [cruciblelaw17_OrderFrontiers.f]) (Ev.bind (ev_bare hs0) ?_));dsimp only;cases t with
 | false =>
  have : ∃ r,Ev (fun k => order_Frontiers.f k ⟨#[]⟩ 0 1 0 (l.map bareB)) r:=by
   by_cases hn : (l.map bareB).length = 0
   · rw [List.eq_nil_of_length_eq_zero hn];exact ⟨_,front_none⟩
   · obtain ⟨M',O,place,fix,_,hw,hO,hF,p3⟩:=ev_tree hs (by omega) ⟨#[]⟩ 0 1 0;exact ⟨_,ev_front hs (by omega) hw hF p3⟩
  obtain ⟨r,hr⟩:=this;refine Ev.bind hr (Ev.bind m1 ?_);simp only [Bool.false_eq_true,if_false];refine Ev.bind ev_awake ?_;simp only [if_true];exact Ev.now _
 | true =>
  have hg:=m2 rfl;obtain ⟨M',O,place,fix,_,hw,hO,hF,p3⟩:=ev_tree hs hg.num.1 ⟨#[]⟩ 0 1 0;refine Ev.bind (ev_front hs hg.num.1 hw hF p3) (Ev.bind m1 ?_);simp only [if_true];refine Ev.bind (ev_rfront hs hg.num.1 hw) (Ev.bind (ev_lists hs.1) ?_);simp only [if_true];exact Ev.bind ev_awake (Ev.now _)
end Go.Proofs.Ytbklmnieakefnaa.Q
namespace Go.Proofs.Ytbklmnieakefnaa.orderFrontiers
open Go.ChangeShapes Go.WideShapes Go.ChangeAt Go.RowKit
set_option linter.unusedVariables false
theorem own : ownKnob Try.prog.godebug = none:=by kernel_rfl
theorem laidOut : laidOutB Try.prog = true:=by kernel_rfl
theorem contract (H : Type) (enc : TypeId × Value → H) (W : World) (base : Nat) (args : Array Value) (ds gs : List (DataW H)) (before : List MemPlace)
 (hval : ∀ (j : Nat) t v,Try.f6.params[j]? = some t → args[j]? = some v → Value.okWide Try.prog W .any base t v)
 (hW : DataW.Whole enc Try.prog Try.f6.params.toList Rows.orderFrontiersSpec.vars false W args.toList ds gs before) (hk : Rows.uptoSmall H (ds ++ gs) = true) :
 Calls Try.prog 6 args W fun e W' => ∃ v,e = .returned v ∧ Rows.orderFrontiersSpec.post enc Try.prog Try.f6 false true false false W args v W' := by
 have hW' := hW;obtain ⟨p,q,hA0,hV,rfl,hfz,hnd⟩:=hW;have hA : DataW.TrodAll enc Try.prog W 0 (fun _ => true) true Try.f6.params.toList args.toList ds p:=hA0;rw [Try.params6] at hA hval;obtain ⟨v0,vs0,d0,ds0,p0,q0,hargs,rfl,rfl,h0,r0⟩:=trodAll_cons hA;obtain ⟨rfl,rfl,rfl⟩:=trodAll_nil r0;obtain rfl : args = #[v0]:=by cases args;simp_all
 obtain ⟨rfl,rfl⟩:=trodVars_none hV;obtain ⟨cs,rfl,hsz⟩:=okWide_struct Try.underlying24 (hval 0 24 v0 rfl rfl);have k0:=h0;have lt0 : ∀ x ∈ p0,x.block < W.heap.size:=by obtain ⟨m,hm⟩:=k0;exact DataW.trod_lt m _ _ _ hm
 obtain ⟨fuel,hf⟩:=h0;obtain ⟨x,hK,hb1,hb2⟩:=Q.rd_24 fuel _ _ hf;obtain ⟨A4,c4,hcs,hle,hC⟩:=Q.k24_open hK;have hcs2 : cs = #[.string x.f0,.int .i64 x.f1,.int .i64 x.f2,.int .i64 x.f3,.slice A4 x.f4.length c4]:=by
  have:=congrArg List.toArray hcs
  simpa [Value.cells] using this
 have hb:=of_decide_eq_true hk;simp only [List.append_nil,Rows.uptoBulkAll] at hb;dsimp only at hb1 hb2;have b0 : x.f4.length ≤ 1048576:=by omega
 have b1 : ∀ y ∈ x.f4,y.f3.length ≤ 1048576:=fun y hy => by have:=hb2 y hy;omega
 clear hA0 hk;obtain ⟨k,hk⟩:=Q.OrderFrontiers_pure x.f0 x.f1 x.f2 x.f3 x.f4 b0 b1;refine Go.Proofs.YtbklmnieakefnaaW.PrintWords.calls_of_args (by rw [hcs2]) ((Q.cruciblelaw17_OrderFrontiers.calls k x.f0 x.f1 x.f2 x.f3 A4 c4 x.f4 true W hC hle hk).mono fun e W' ⟨he,bel⟩ => ?_);subst he;exact ⟨_,rfl,_,_,_,[],_,[],hW',trodAll_mk1 (shut_bool Try.underlying4 _),(trodAll_cons_mk (Below.trod laidOut (by kernel_rfl) (of_decide_eq_true (by kernel_rfl)) k0 bel lt0) trodAll_mk0),rfl,bel.frame _,fun h => by cases h⟩
set_option maxRecDepth 100000 in
theorem lifted (os : Os) (started : os.Started) (H : Type) (enc : TypeId × Value → H) (F : Stop.Interp) :
 ReturnsInHanded {} Try.checked os 6 .any ((Rows.OpenSpec.upto Rows.orderFrontiersSpec).pre6 enc Try.prog Try.f6 Rows.orderFrontiersUptoRow.domain false) (((Rows.OpenSpec.upto Rows.orderFrontiersSpec).at F).post enc Try.prog Try.f6 false true false false):=by
 refine returnsInHanded_of_cond (C:=Try.checked) (s:=Rows.OpenSpec.upto Rows.orderFrontiersSpec) (k:=Rows.uptoSmall) rfl own started (by kernel_rfl) Try.func6
  (OpenSpec.witness (enc:=enc) (C:=Try.checked) (s:=Rows.OpenSpec.upto Rows.orderFrontiersSpec) (k:=Rows.uptoSmall) rfl false ⟨#[],#[.agg #[.string .empty,.int .i64 0,.int .i64 0,.int .i64 0,.slice none 0 0]],[]⟩ 8 (by kernel_rfl) (by kernel_rfl) (by kernel_rfl)
   (x:=([.agg [.lit (.string []),.lit (.int .i64 0),.lit (.int .i64 0),.lit (.int .i64 0),.nil]],[],[])) (by kernel_rfl) rfl (by kernel_rfl)) ?_
 intro W base args ds gs before hval hW _ hk _;exact contract H enc W base args ds gs before hval hW hk
theorem said : Rows.OrderFrontiersUptoSaid :=
 OpenClaim.holds_of_cond 6 Try.f6 rfl rfl rfl rfl rfl rfl rfl ⟨rfl,rfl,rfl,rfl,rfl⟩ rfl rfl rfl rfl rfl (by kernel_rfl) Try.func6 (by kernel_rfl)
  (of_decide_eq_true (by kernel_rfl)) (by unfold Func.isWrapper;first|(rw [if_pos (by decide +kernel)];kernel_rfl)|(rw [if_neg (by decide +kernel)];exact ⟨rfl,rfl⟩))
  (fun os started H enc _ F => lifted os started H enc F)
end Go.Proofs.Ytbklmnieakefnaa.orderFrontiers
