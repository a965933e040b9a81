/-
  The tools of the walks of this seat, in one import. Conditions: none.
-/
import Derived.Test.YtkbhehnpgnilmaaArr
import Derived.Test.YtkbhehnpgnilmaaQt
import Derived.Test.YtkbhehnpgnilmaaPut
import Derived.Test.YtkbhehnpgnilmaaBe
import Derived.BigQuiet
import Derived.Deep.QuietTactic
import Derived.Deep.RegionHeld3
import Derived.Deep.RegionWith
import Derived.Deep.DeepCutAuto
import Derived.Deep.CutBlock
import Derived.Deep.AppendLies
import Derived.Deep.LoopGhost
import Derived.Laws.EntriesVeiled
import Derived.Laws.Cover3
import Derived.Outline
