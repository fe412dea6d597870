/- Calls, opened; memory of its own. -/
import Derived.Test.YtfadoejoanffoaaDqZ
import Derived.Test.YtfadoejoanffoaaDqOwnB
