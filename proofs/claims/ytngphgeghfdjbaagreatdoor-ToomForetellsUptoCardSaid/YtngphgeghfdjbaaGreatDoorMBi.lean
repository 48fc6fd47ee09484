/- sN of the proof (part 9): what the rows' text needs of the texts that lead to it. -/
import Derived.Test.YtngphgeghfdjbaaGreatDoorMBh
set_option linter.unusedVariables false
set_option linter.unusedSimpArgs false
set_option linter.unusedSectionVars false
set_option maxHeartbeats 4000000
noncomputable section
set_option maxRecDepth 100000
namespace Go.Sl.Ev
open Go Go.Sl
def RR (a b:Option Nat):Bool:=match a with
 | none=>(match b with | none=>true | some _=>false)
 | some x=>(match b with | none=>false | some y=>Nat.beq x y)
theorem JE {a b:Option Nat} (h:RR a b=true):a=b:=by
 cases a <;> cases b <;> first | rfl | (cases h;done) | (exact congrArg some (aB h))
def CI (a:CV):CV→Bool:=CV.rec (motive:=fun _=>CV→Bool)
 (fun k n b=>match b with | .int k' n'=>Xb k k' && Cj n n' | _=>false)
 (fun x b=>match b with | .bool y=>IX x y | _=>false)
 (fun _ ih b=>match b with | .str s=>ih s | _=>false)
 (fun t o b=>match b with | .ptr t' o'=>Nat.beq t t' && Nat.beq o o' | _=>false)
 (fun b=>match b with | .nilp=>true | _=>false)
 (fun t o n sz c b=>match b with | .sl t' o' n' sz' c'=>Nat.beq t t' && (Nat.beq o o' && (Nat.beq n n' && (Nat.beq sz sz' && RR c c'))) | _=>false)
 (fun b=>match b with | .nils=>true | _=>false)
 (fun b=>match b with | .sle=>true | _=>false)
 (fun t b=>match b with | .mp t'=>Nat.beq t t' | _=>false)
 (fun b=>match b with | .nilm=>true | _=>false)
 (fun f _ _ i1 i2 b=>match b with | .fn f' x y=>Nat.beq f f' && (i1 x && i2 y) | _=>false)
 (fun b=>match b with | .nilf=>true | _=>false)
 (fun t b=>match b with | .yl t'=>Nat.beq t t' | _=>false)
 (fun _ ih b=>match b with | .agg l=>ih l | _=>false)
 (fun _ ih b=>match b with | .tup l=>ih l | _=>false)
 (fun b=>match b with | .nil=>true | _=>false)
 (fun _ _ i1 i2 b=>match b with | .cons x y=>i1 x && i2 y | _=>false) a
theorem zS {a b:Nat} (h:Nat.beq a b=true):a=b:=aB h
theorem CJ {a b:Bool} (h:IX a b=true):a=b:=by cases a <;> cases b <;> first | rfl | cases h
theorem Rx:∀ {a b:CV},CI a b=true→a=b:=by
 intro a
 induction a with
 | int k n =>
   intro b h
   cases b <;> first | (cases h;done) | skip
   rename_i k' n'
   have h':(Xb k k' && Cj n n')=true:=h
   rw [aA] at h'
   rw [By h'.1,qC ((tW n n').symm.trans h'.2)]
 | bool x=>intro b h;cases b <;> first | (cases h;done) | (exact congrArg _ (CJ h))
 | str s ih=>intro b h;cases b <;> first | (cases h;done) | (exact congrArg _ (ih h))
 | ptr t o =>
   intro b h
   cases b <;> first | (cases h;done) | skip
   rename_i t' o'
   have h':(Nat.beq t t' && Nat.beq o o')=true:=h
   rw [aA] at h'
   rw [zS h'.1,zS h'.2]
 | nilp=>intro b h;cases b <;> first | rfl | cases h
 | sl t o n sz c =>
   intro b h
   cases b <;> first | (cases h;done) | skip
   rename_i t' o' n' sz' c'
   have h':(Nat.beq t t' && (Nat.beq o o' && (Nat.beq n n' && (Nat.beq sz sz' && RR c c'))))=true:=h
   simp only [aA] at h'
   rw [zS h'.1,zS h'.2.1,zS h'.2.2.1,zS h'.2.2.2.1,JE h'.2.2.2.2]
 | nils=>intro b h;cases b <;> first | rfl | cases h
 | sle=>intro b h;cases b <;> first | rfl | cases h
 | mp t=>intro b h;cases b <;> first | (cases h;done) | (exact congrArg _ (zS h))
 | nilm=>intro b h;cases b <;> first | rfl | cases h
 | fn f x y i1 i2 =>
   intro b h
   cases b <;> first | (cases h;done) | skip
   rename_i f' x' y'
   have h':(Nat.beq f f' && (CI x x' && CI y y'))=true:=h
   simp only [aA] at h'
   rw [zS h'.1,i1 h'.2.1,i2 h'.2.2]
 | nilf=>intro b h;cases b <;> first | rfl | cases h
 | yl t=>intro b h;cases b <;> first | (cases h;done) | (exact congrArg _ (zS h))
 | agg l ih=>intro b h;cases b <;> first | (cases h;done) | (exact congrArg _ (ih h))
 | tup l ih=>intro b h;cases b <;> first | (cases h;done) | (exact congrArg _ (ih h))
 | nil=>intro b h;cases b <;> first | rfl | cases h
 | cons x y i1 i2 =>
   intro b h
   cases b <;> first | (cases h;done) | skip
   rename_i x' y'
   have h':(CI x x' && CI y y')=true:=h
   rw [aA] at h'
   rw [i1 h'.1,i2 h'.2]
structure EB where
 t:Nat
 l:CV
 ty:Nat
 op:Bool
 ro:Bool
 st:Nat
def EB.cb (x:EB):CB:=bif x.ro then .ro (It x.l) x.ty x.st else .cells (It x.l) x.ty x.op x.st
def sF (h:Tr CB) (l:List EB):Tr CB:=List.rec h (fun x _ ih=>ih.set (some x.cb) rF x.t) l
def zB (g:Bool) (h:Tr CB) (x:EB):Bool:=match h.get x.t with
 | some (.cells l ty op st)=>not x.ro && (Nat.beq l.n (rU x.l) && (CI (sB l 0 l.n) x.l && (Nat.beq ty x.ty && (IX op x.op && (not g || Nat.beq st x.st)))))
 | some (.ro l ty st)=>x.ro && (Nat.beq l.n (rU x.l) && (CI (sB l 0 l.n) x.l && (Nat.beq ty x.ty && (not g || Nat.beq st x.st))))
 | _=>false
theorem CK (x:EB):Ly x.cb=x.st:=by
 unfold EB.cb
 cases x.ro <;> rfl
theorem xH {g:Bool} {h:Tr CB} {x:EB} (hx:zB g h x=true):∃ b,h.get x.t=some b∧(g=true→Ly b=x.st)∧∀ (nx:Nat) (ρ:Pl) (s:Nat) (o:Obj),DB nx ρ s b o→DB nx ρ s x.cb o:=by
 unfold zB at hx
 have key:∀ {l:Rw},Nat.beq l.n (rU x.l)=true→CI (sB l 0 l.n) x.l=true→∀ {nx:Nat} {ρ:Pl} {vs:List Value},RL nx ρ l vs→RL nx ρ (It x.l) vs:=fun {l} h1 h2 {nx ρ vs} hr=>by
  have e1:=Rx h2
  have e2:=zS h1
  have hl:rU (sB l 0 l.n)=l.n:=by rw [e1,←e2]
  have hk:=uZ hr hl
  rw [e1,hr.1] at hk
  simp only [jN,fK] at hk
  exact Mb hk
 split at hx
 · rename_i l ty op st hb
   simp only [aA,cW] at hx
   obtain ⟨h1,h2,h3,h4,h5,h6⟩:=hx
   refine ⟨_,hb,fun hg=>?_,fun nx ρ s o hd=>?_⟩
   · subst hg;show st=x.st;simpa using h6
   unfold EB.cb
   rw [h1]
   obtain ⟨vs,junk,k1,k2,k3,k4⟩:=hd
   refine ⟨vs,junk,key h2 h3 k1,by rw [←zS h4];exact k2,k3,fun ho=>k4 (by rw [CJ h5];exact ho)⟩
 · rename_i l ty st hb
   simp only [aA] at hx
   obtain ⟨h1,h2,h3,h4,h6⟩:=hx
   refine ⟨_,hb,fun hg=>?_,fun nx ρ s o hd=>?_⟩
   · subst hg;show st=x.st;simpa using h6
   unfold EB.cb
   rw [h1]
   obtain ⟨vs,fz,k1,k2⟩:=hd
   exact ⟨vs,fz,key h2 h3 k1,by rw [←zS h4];exact k2⟩
 cases hx
theorem tT (h:Tr CB):∀ {l:List EB},(∀ x∈l,x.t<rF)→∀ {t:Nat} {b:CB},(sF h l).get t=some b→(∃ x∈l,x.t=t∧x.cb=b)∨((∀ x∈l,x.t≠t)∧h.get t=some b)
 | [],_,t,b,hg=>.inr ⟨fun x hx=>(by cases hx),hg⟩
 | x :: l,hl,t,b,hg=>by
   have hg':((sF h l).set (some x.cb) rF x.t).get t=some b:=hg
   rw [dG _ _ _ _ _ (hl x (bC ..))] at hg'
   by_cases e:t=x.t
   · rw [aT e] at hg'
     cases hg'
     exact .inl ⟨x,bC ..,e.symm,rfl⟩
   rw [aF e] at hg'
   rcases tT h (fun y hy=>hl y (aV _ hy)) hg' with ⟨y,h1,h2⟩ | ⟨h1,h2⟩
   · exact .inl ⟨y,aV _ h1,h2⟩
   refine .inr ⟨fun y hy=>?_,h2⟩
   rcases cH.1 hy with rfl | hy
   · exact fun e2=>e e2.symm
   exact h1 y hy
theorem yS (h:Tr CB):∀ {l:List EB},(∀ x∈l,x.t<rF)→∀ {t:Nat},((∃ x∈l,x.t=t)∨(∃ b,h.get t=some b))→∃ b,(sF h l).get t=some b
 | [],_,t,hg=>hg.elim (fun ⟨x,hx,_⟩=>by cases hx) id
 | x :: l,hl,t,hg=>by
   show ∃ b,((sF h l).set (some x.cb) rF x.t).get t=some b
   rw [dG _ _ _ _ _ (hl x (bC ..))]
   by_cases e:t=x.t
   · exact ⟨_,aT e⟩
   rw [aF e]
   refine yS h (fun y hy=>hl y (aV _ hy)) (hg.imp ?_ id)
   rintro ⟨y,hy,h2⟩
   rcases cH.1 hy with rfl | hy
   · exact absurd h2.symm e
   exact ⟨y,hy,h2⟩
structure Ent where
 f:Nat
 nx:Nat
 args:CV
 hs:List EB
 v:CV
 news:List EB
 nx':Nat
def Tt (mm:List Ent) (f:Nat) (args:CV) (h:Tr CB) (nx:Nat):Option Ent:=
 List.rec none (fun e _ ih=>bif Nat.beq e.f f && (Nat.beq e.nx nx && (CI e.args args && Bf (zB false h) e.hs)) then some e else ih) mm
def NE (mm:List Ent) (c:Cmd) (r:Res):Res:=match c with
 | .call f args h nx=>(match Tt mm f args h nx with | some e=>.ret e.v (sF h e.news) e.nx' | none=>r)
 | _=>r
def GC (e:Ent):Bool:=Nat.ble e.nx e.nx' && (Nat.ble e.nx' rF && (Bf (fun x=>Nat.ble (Nat.succ x.t) e.nx && Nat.ble (Nat.succ x.st) e.nx) e.hs && Bf (fun x=>Nat.ble e.nx x.t && (Nat.ble (Nat.succ x.t) e.nx' && (Nat.ble e.nx x.st && Nat.ble (Nat.succ x.st) e.nx'))) e.news))
def xO (P:Program) (Φ:Imm→Prop) (e:Ent):Prop:=GC e=true∧rB P Φ (.call e.f e.args (sF .e e.hs) e.nx) (.ret e.v (sF (sF .e e.hs) e.news) e.nx')
def MemoOk (P:Program) (Φ:Imm→Prop) (mm:List Ent):Prop:=∀ e∈mm,xO P Φ e
section
variable {P:Program} {Φ:Imm→Prop} {pr:sL}
theorem Tu {e:Ent} (h:GC e=true):e.nx≤e.nx'∧e.nx'≤rF∧(∀ x∈e.hs,x.t<e.nx∧x.st<e.nx)∧∀ x∈e.news,e.nx≤x.t∧x.t<e.nx'∧e.nx≤x.st∧x.st<e.nx':=by
 unfold GC at h
 simp only [aA] at h
 refine ⟨rG h.1,rG h.2.1,fun x hx=>?_,fun x hx=>?_⟩
 · have:=tE.1 h.2.2.1 x hx
   rw [aA] at this
   exact ⟨rG this.1,rG this.2⟩
 have:=tE.1 h.2.2.2 x hx
 simp only [aA] at this
 exact ⟨rG this.1,rG this.2.1,rG this.2.2.1,rG this.2.2.2⟩
theorem CL {mm:List Ent} {f nx:Nat} {args:CV} {h:Tr CB} {e:Ent} (hl:Tt mm f args h nx=some e):e∈mm∧e.f=f∧e.nx=nx∧e.args=args∧∀ x∈e.hs,zB false h x=true:=by
 induction mm with
 | nil=>cases hl
 | cons a mm ih =>
   have hl':(bif Nat.beq a.f f && (Nat.beq a.nx nx && (CI a.args args && Bf (zB false h) a.hs)) then some a else Tt mm f args h nx)=some e:=hl
   rcases rA hl' with ⟨h1,h2⟩ | ⟨_,h2⟩
   · cases h2
     simp only [aA] at h1
     exact ⟨bC ..,zS h1.1,zS h1.2.1,Rx h1.2.2.1,fun x hx=>tE.1 h1.2.2.2 x hx⟩
   obtain ⟨k1,k2⟩:=ih h2
   exact ⟨aV _ k1,k2⟩
theorem Mem.part {ρ:Pl} {w0:Bas Φ} {h:Tr CB} {nx:Nat} {w:World} {hs:List EB} (hm:Mem ρ w0 h nx w) (hlt:∀ x∈hs,x.t<rF) (hst:∀ x∈hs,x.st<nx) (hhas:∀ x∈hs,zB false h x=true):Mem ρ w0 (sF .e hs) nx w:=by
 have key:∀ {t b},(sF .e hs).get t=some b→∃ x∈hs,x.t=t∧x.cb=b:=fun hb=>(tT .e hlt hb).elim id fun h=>by cases h.2
 have old:∀ {t b},(sF .e hs).get t=some b→∃ c,h.get t=some c:=fun hb=>by
  obtain ⟨x,hx,rfl,_⟩:=key hb
  obtain ⟨c,h1,_⟩:=xH (hhas x hx)
  exact ⟨c,h1⟩
 refine ⟨hm.upd,fun t b hb=>?_,fun t t' b b' h1 h2 he=>?_,hm.imm,hm.nod,fun c hc=>⟨(hm.kept c hc).1,(hm.kept c hc).2.1,fun t b hb=>?_⟩⟩
 · obtain ⟨x,hx,rfl,rfl⟩:=key hb
   obtain ⟨c,h1,_,h3⟩:=xH (hhas x hx)
   obtain ⟨q1,q2,q3,o,q4,q5⟩:=hm.own _ _ h1
   exact ⟨q1,by rw [CK];exact hst x hx,q3,o,q4,h3 _ _ _ _ q5⟩
 · obtain ⟨c,k1⟩:=old h1
   obtain ⟨c',k2⟩:=old h2
   exact hm.one _ _ _ _ k1 k2 he
 obtain ⟨c',k1⟩:=old hb
 exact (hm.kept c hc).2.2 _ _ k1
theorem GD {mm:List Ent} (hmm:MemoOk P Φ mm) {c:Cmd} {r:Res} (hr:rB P Φ c r):rB P Φ c (NE mm c r):=by
 cases c with
 | call f args h nx =>
   show rB P Φ _ (match Tt mm f args h nx with | some e=>.ret e.v (sF h e.news) e.nx' | none=>r)
   split
   · rename_i e he
     obtain ⟨h1,rfl,rfl,rfl,h2⟩:=CL he
     obtain ⟨hb,hf,hd⟩:=hmm e h1
     obtain ⟨b1,b2,b3,b4⟩:=Tu hb
     refine ⟨hf,fun ρ w0 w vs hm hk hfit=>?_⟩
     have hlt:∀ x∈e.hs,x.t<rF:=fun x hx=>bG (b3 x hx).1 (aK b1 b2)
     have hlt':∀ x∈e.news,x.t<rF:=fun x hx=>bG (b4 x hx).2.1 b2
     have m0:=hm.part hlt (fun x hx=>(b3 x hx).2) h2
     refine (hd ρ w0 w vs m0 hk hfit).mono fun ex w' ⟨u,ρ',e1,e2,e3,e4⟩=>⟨u,ρ',e1,?_,e3,?_⟩
     all_goals
      have g0:∀ {t b},(sF .e e.hs).get t=some b→∃ c,h.get t=some c∧t<e.nx:=fun hb=>by
       obtain ⟨x,hx,rfl,_⟩:=(tT .e hlt hb).elim id fun h=>by cases h.2
       obtain ⟨c,k1,_⟩:=xH (h2 x hx)
       exact ⟨c,k1,(b3 x hx).1⟩
      have unl:∀ {t b},h.get t=some b→(∀ x∈e.hs,x.t≠t)→w'.heap[(ρ t).1]?=w.heap[(ρ t).1]?:=fun {t b} hb hn=>by
       refine e2.old.fr _ (hm.lt hb) (fun t' b' hb' he'=>?_) id
       obtain ⟨x,hx,rfl,_⟩:=(tT .e hlt hb').elim id fun h=>by cases h.2
       obtain ⟨c,k1,_⟩:=g0 hb'
       exact hn x hx (hm.one _ _ _ _ k1 hb he')
      have same:∀ {t b},h.get t=some b→w'.heap[(ρ t).1]?=w.heap[(ρ t).1]?:=fun {t b} hb=>by
       by_cases hin:∃ x∈e.hs,x.t=t
       · obtain ⟨b0,hb0⟩:=yS (.e:Tr CB) hlt (.inl hin)
         obtain ⟨b1',hb1⟩:=yS (sF .e e.hs) hlt' (.inr ⟨b0,hb0⟩)
         have htn:t<e.nx:=(hm.own t b hb).1
         rcases tT (sF .e e.hs) hlt' hb1 with ⟨y,hy,hyt,_⟩ | ⟨_,k2⟩
         · have:=(b4 y hy).1;omega
         obtain ⟨x,hx,hxt,hxc⟩:=(tT .e hlt k2).elim id fun h=>by cases h.2
         exact (e2.old.old t b1' hb1 (by rw [←hxc,CK];exact (b3 x hx).2)).2
       exact unl hb fun x hx hxt=>hin ⟨x,hx,hxt⟩
      have cases2:∀ {t b},(sF h e.news).get t=some b→(e.nx≤t∧(sF (sF .e e.hs) e.news).get t=some b∧e.nx≤Ly b∧Ly b<e.nx')∨(t<e.nx∧h.get t=some b):=fun {t b} hb=>by
       rcases tT h hlt' hb with ⟨x,hx,hxt,hxc⟩ | ⟨_,k2⟩
       · refine .inl ⟨by rw [←hxt];exact (b4 x hx).1,?_,by rw [←hxc,CK];exact (b4 x hx).2.2⟩
         have hn0:(sF .e e.hs).get t=none:=by
          cases hg:(sF (.e:Tr CB) e.hs).get t with
          | none=>rfl
          | some c=>obtain ⟨_,_,q⟩:=g0 hg;have:=(b4 x hx).1;omega
         -- the same list on another memory
         have Ko:∀ (l:List EB),(∀ x∈l,x.t<rF)→∀ {b},(sF h l).get t=some b→(∃ x∈l,x.t=t)→(sF (sF .e e.hs) l).get t=some b:=fun l=>by
          induction l with
          | nil=>intro _ b _ hx;obtain ⟨x,hx,_⟩:=hx;cases hx
          | cons y l ih =>
            intro hl b hb hx
            have hb':((sF h l).set (some y.cb) rF y.t).get t=some b:=hb
            show ((sF (sF .e e.hs) l).set (some y.cb) rF y.t).get t=some b
            rw [dG _ _ _ _ _ (hl y (bC ..))] at hb' ⊢
            by_cases e:t=y.t
            · rw [aT e] at hb' ⊢;exact hb'
            rw [aF e] at hb' ⊢
            obtain ⟨x,hx,hxt⟩:=hx
            rcases cH.1 hx with rfl | hx
            · exact absurd hxt.symm e
            exact ih (fun z hz=>hl z (aV _ hz)) hb' ⟨x,hx,hxt⟩
         exact Ko e.news hlt' hb ⟨x,hx,hxt⟩
       exact .inr ⟨(hm.own t b k2).1,k2⟩
     · refine ⟨e2.le,e2.fit,e2.ext,fun t b hb hs=>?_,fun p hp hun hx=>e2.old.fr p hp (fun t b hb he'=>?_) hx,fun t b hb=>?_,e2.old.sz⟩
       · rcases cases2 hb with ⟨_,_,k3,_⟩ | ⟨_,k2⟩
         · omega
         exact ⟨k2,same k2⟩
       · obtain ⟨c,k1,_⟩:=g0 hb
         exact hun t c k1 he'
       rcases cases2 hb with ⟨_,k2,_⟩ | ⟨k1,k2⟩
       · rcases e2.old.nw t b k2 with k3 | ⟨t',b',k3,k4⟩
         · exact .inl k3
         obtain ⟨c,k5,_⟩:=g0 k3
         exact .inr ⟨t',c,k5,k4⟩
       exact .inr ⟨t,b,k2,by rw [e2.ext t k1]⟩
     have place:∀ {t b},(sF (sF .e e.hs) e.news).get t=some b→e.nx≤t→∀ t' b',h.get t'=some b'→(ρ' t).1≠(ρ t').1:=fun {t b} hb htn t' b' hb' he'=>by
      rcases e2.old.nw t b hb with k3 | ⟨t2,b2,k3,k4⟩
      · have:=hm.lt hb';omega
      obtain ⟨c,k5,k6⟩:=g0 k3
      obtain ⟨b3',k7⟩:=yS (sF .e e.hs) hlt' (.inr ⟨b2,k3⟩)
      have:=e4.one t t2 _ _ hb k7 (by rw [e2.ext t2 k6];exact k4.symm)
      omega
     refine ⟨e4.upd,fun t b hb=>?_,fun t t' b b' hb hb' he'=>?_,e4.imm,e4.nod,fun c hc=>⟨(e4.kept c hc).1,(e4.kept c hc).2.1,fun t b hb=>?_⟩⟩
     · rcases cases2 hb with ⟨_,k2,_⟩ | ⟨k1,k2⟩
       · exact e4.own t b k2
       obtain ⟨q1,q2,q3,o,q4,q5⟩:=hm.own t b k2
       rw [e2.ext t k1]
       exact ⟨bG q1 e2.le,bG q2 e2.le,q3,o,(same k2).trans q4,q5.up e2.le e2.ext⟩
     · rcases cases2 hb with ⟨j1,k2,_⟩ | ⟨k1,k2⟩ <;> rcases cases2 hb' with ⟨j1',k2',_⟩ | ⟨k1',k2'⟩
       · exact e4.one t t' b b' k2 k2' he'
       · rw [e2.ext t' k1'] at he'
         exact absurd he' (place k2 j1 t' b' k2')
       · rw [e2.ext t k1] at he'
         exact absurd he'.symm (place k2' j1' t b k2)
       rw [e2.ext t k1,e2.ext t' k1'] at he'
       exact hm.one t t' b b' k2 k2' he'
     rcases cases2 hb with ⟨_,k2,_⟩ | ⟨k1,k2⟩
     · exact (e4.kept c hc).2.2 t b k2
     rw [e2.ext t k1];exact (hm.kept c hc).2.2 t b k2
   · exact hr
 | _=>exact hr
def JF (P:Program) (pr:sL) (mm:List Ent) (F:Nat):Cmd→Res:=Nat.rec (motive:=fun _=>Cmd→Res) (fun _=>.bad 0 []) (fun _ r c=>NE mm c (step P pr (JD P pr 1000000 r) c)) F
theorem Pr (hpr:wI P Φ pr) {mm:List Ent} (hmm:MemoOk P Φ mm) (F:Nat):Rq P Φ (JF P pr mm F):=by
 induction F with
 | zero=>exact fun c=>yM c 0 []
 | succ F r=>exact fun c=>GD hmm (Ia hpr (Pq hpr _ r) c)
def JG (P:Program) (pr:sL) (mm:List Ent) (F:Nat) (c:Cmd):Res:=step P pr (JD P pr 1000000 (JF P pr mm F)) c
def NF (e:Ent) (r:Res):Bool:=GC e && (match r with
 | .ret v h nx=>CI v e.v && (Nat.beq nx e.nx' && (Bf (zB true h) e.hs && Bf (zB false h) e.news))
 | _=>false)
theorem uP (hpr:wI P Φ pr) {mm:List Ent} (hmm:MemoOk P Φ mm) (F:Nat) (e:Ent) (h:NF e (JG P pr mm F (.call e.f e.args (sF .e e.hs) e.nx))=true):xO P Φ e:=by
 have H:rB P Φ (.call e.f e.args (sF .e e.hs) e.nx) (JG P pr mm F (.call e.f e.args (sF .e e.hs) e.nx)):=Ia hpr (Pq hpr _ (Pr hpr hmm F)) _
 unfold NF at h
 rw [aA] at h
 obtain ⟨hb,h⟩:=h
 refine ⟨hb,?_⟩
 obtain ⟨b1,b2,b3,b4⟩:=Tu hb
 revert H h
 generalize JG P pr mm F (.call e.f e.args (sF .e e.hs) e.nx)=r
 intro H h
 cases r with
 | bad=>cases h
 | ok=>cases h
 | ret v h' nx' =>
   simp only [aA] at h
   obtain ⟨h1,h2,h3,h4⟩:=h
   have e1:=Rx h1
   have e2:=zS h2
   subst e1 e2
   refine ⟨H.1,fun ρ w0 w vs hm hk hfit=>(H.2 ρ w0 w vs hm hk hfit).mono fun ex w' ⟨u,ρ',k1,k2,k3,k4⟩=>⟨u,ρ',k1,?_,k3,?_⟩⟩
   all_goals
    have hlt:∀ x∈e.hs,x.t<rF:=fun x hx=>bG (b3 x hx).1 (aK b1 b2)
    have hlt':∀ x∈e.news,x.t<rF:=fun x hx=>bG (b4 x hx).2.1 b2
    have key:∀ {t b},(sF (sF .e e.hs) e.news).get t=some b→∃ x:EB,x.t=t∧x.cb=b∧((x∈e.news∧zB false h' x=true)∨(x∈e.hs∧zB true h' x=true∧(sF .e e.hs).get t=some b)):=fun {t b} hb=>by
     rcases tT (sF .e e.hs) hlt' hb with ⟨x,hx,hxt,hxc⟩ | ⟨_,q⟩
     · exact ⟨x,hxt,hxc,.inl ⟨hx,tE.1 h4 x hx⟩⟩
     obtain ⟨x,hx,hxt,hxc⟩:=(tT .e hlt q).elim id fun h=>by cases h.2
     exact ⟨x,hxt,hxc,.inr ⟨hx,tE.1 h3 x hx,q⟩⟩
    have has:∀ {t b},(sF (sF .e e.hs) e.news).get t=some b→∃ c,h'.get t=some c∧∀ (s:Nat) (o:Obj),DB e.nx' ρ' s c o→DB e.nx' ρ' s b o:=fun {t b} hb=>by
     obtain ⟨x,rfl,rfl,q⟩:=key hb
     rcases q with ⟨_,q⟩ | ⟨_,q,_⟩
     · obtain ⟨c,q1,_,q2⟩:=xH q;exact ⟨c,q1,q2 _ _⟩
     obtain ⟨c,q1,_,q2⟩:=xH q;exact ⟨c,q1,q2 _ _⟩
   · refine ⟨k2.le,k2.fit,k2.ext,fun t b hb hs=>?_,k2.old.fr,fun t b hb=>?_,k2.old.sz⟩
     · obtain ⟨x,rfl,rfl,q⟩:=key hb
       rw [CK] at hs
       rcases q with ⟨q,_⟩ | ⟨q0,q,q3⟩
       · have:=(b4 x q).2.2.1;omega
       obtain ⟨c,q1,q2,_⟩:=xH q
       exact ⟨q3,(k2.old.old x.t c q1 (by rw [q2 rfl];exact hs)).2⟩
     obtain ⟨c,q1,_⟩:=has hb
     exact k2.old.nw t c q1
   refine ⟨k4.upd,fun t b hb=>?_,fun t t' b b' hb hb' he'=>?_,k4.imm,k4.nod,fun c hc=>⟨(k4.kept c hc).1,(k4.kept c hc).2.1,fun t b hb=>?_⟩⟩
   · obtain ⟨c,q1,q2⟩:=has hb
     obtain ⟨g1,g2,g3,o,g4,g5⟩:=k4.own t c q1
     refine ⟨g1,?_,g3,o,g4,q2 _ _ g5⟩
     obtain ⟨x,rfl,rfl,q⟩:=key hb
     rw [CK]
     rcases q with ⟨q,_⟩ | ⟨q,_⟩
     · exact (b4 x q).2.2.2
     have:=(b3 x q).2;omega
   · obtain ⟨c,q1,_⟩:=has hb
     obtain ⟨c',q1',_⟩:=has hb'
     exact k4.one t t' c c' q1 q1' he'
   obtain ⟨c',q1,_⟩:=has hb
   exact (k4.kept c hc).2.2 t c' q1
theorem MemoOk.nil:MemoOk P Φ []:=fun e h=>vU
abbrev iP:=@MemoOk.nil
theorem MemoOk.cons {e:Ent} {mm:List Ent} (h:xO P Φ e) (k:MemoOk P Φ mm):MemoOk P Φ (e :: mm):=fun x hx=>by
 rcases cH.1 hx with rfl | hx
 · exact h
 exact k x hx
abbrev iL:=@MemoOk.cons
theorem Ry {f:Nat} (pr:sL) (hpr:wI P Φ pr) {mm:List Ent} (hmm:MemoOk P Φ mm) (F:Nat) (h:BR (JF P pr mm F (.call f .nil .e 0))=true) (G:Imm) (hG:Φ G):Does P f [] G [] (fun v G' Ho=>v=.bool true∧G'=G∧Ho=[]):=
 Wt (Pr hpr hmm F _) h G hG
end
end Go.Sl.Ev
namespace Go.Proofs.YtngphgeghfdjbaaGreatDoor
open Go Go.Sl Go.Sl.Ev
section
set_option maxRecDepth 1000000
def RU (l:CV):Option CV:=match l with
 | .cons (.int .u64 c) .nil=>bif Cj (Ur c) 0 then none else some (.int .i64 (Ur c))
 | _=>none
def tzP:sL:=[(269,RU)]
theorem zC:wI Tryz.prog TabOk tzP:=by
 intro f g h
 have h':(bif Nat.beq 269 f then some RU else none)=some g:=h
 rcases rA h' with ⟨h1,h2⟩ | ⟨_,h2⟩
 · have:=aB h1
   subst this
   cases h2
   refine ⟨T.fn269,fun args v hv G hG nx ρ vs hk=>?_⟩
   unfold RU at hv
   split at hv
   · rename_i c
     rcases rA hv with ⟨_,h2⟩ | ⟨h1,h2⟩
     · cases h2
     cases h2
     rw [tW,dE] at h1
     obtain ⟨u,r,rfl,k1,k2⟩:=jD.1 hk.2
     have e1:=fC.1 k1
     have e2:=DL.nil.1 k2
     subst e1 e2
     exact ⟨_,vA,OH G hG c h1⟩
   cases hv
 cases h2
end
end Go.Proofs.YtngphgeghfdjbaaGreatDoor
end
