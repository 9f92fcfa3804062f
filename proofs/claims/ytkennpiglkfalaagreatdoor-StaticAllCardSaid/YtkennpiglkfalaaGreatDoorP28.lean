/- A part. No condition. -/
import Derived.Test.YtkennpiglkfalaaGreatDoorP27
import Derived.Test.YtkennpiglkfalaaGreatDoorP22
set_option linter.all false
namespace Go.Hs
section
variable{P:Program}{W:World}
def HP(k:IntKind)(n:Int):Prop:=k.min<=n/\n<=k.max
def ABG{X cs l}(h:CI X (Value.agg cs).cells.toList l):AI X (.agg cs) (.agg l):=by refine .agg cs l ?_ ?_ ?_;have:=h.len;exact this;intro x a;exact h.one x (by simpa[Value.cells]using a);intro i b h2;have:=h.CV i (by simpa[Value.cells]using b) h2;exact this
def kv:Nat->V:=λ_=>.top
def sI:Yy kv:=λ_=>⟨rfl,.top⟩
def Spec.toCalls{f args cargs K}(h:Spec P kv f args Zm K)(g:FA (Uv W) cargs args):Calls P f cargs W (λe w'=>∃ c v H' Y,e=.returned c/\AI Y c v/\K v H'/\RowKit.Below W.heap.size W w'):=by refine(h _ _ rfl (kJ W) (λ_=>⟨.top _,AJ⟩) g).mono ?_;rintro e w' ⟨c,v,H',Y,rfl,rfl,d,a,b⟩;exact⟨c,v,H',Y,rfl,a,b,d.kp.below F0⟩
end
def Xz{α}(g c m){f f'}(h:∀ x,(f x).recol g=f' x)(s:Sl α):(Za c m f s).recol g=Za (g c) m f' s:=by rcases s with _|⟨b,l⟩;rfl;simp only[Za,V.recol,Yl,EL];simp_all
def Xv(g c m k s):(Za c m (V.int k) s).recol g=Za (g c) m (V.int k) s:=Xz g c m BE s
def Ui(g c m s):(Za c m V.AB s).recol g=Za (g c) m V.AB s:=Xz g c m BE s
def Xr(g k n):(V.int k n).recol g=.int k n:=rfl
def M9(g b):(V.bool b).recol g=.bool b:=rfl
def Ua(g b):(V.AB b).recol g=.AB b:=rfl
def yj(g):V.AG.recol g=.AG:=rfl
def X9(g l):(V.agg l).recol g=.agg (l.map (V.recol g)):=by simp[V.recol,Yl]
def mv(g l):(V.tuple l).recol g=.tuple (l.map (V.recol g)):=by simp[V.recol,Yl]
def AAM:AH.new.ent=.old/\AH.old.bk=.any:=⟨rfl,rfl⟩
attribute[go_sem]AAM Xv Ui Xr M9 Ua yj X9 mv
